/-
  The law FnBoxScores itself, walked along the way on which all holds. Codes within memory's reach.
-/
import Derived.Test.YtelfllbjcpndfaaSq
import Derived.Test.YtelfllbjcpndfaaScoreDefs
import Derived.Test.YtelfllbjcpndfaaOutDraw3
import Derived.Test.YtelfllbjcpndfaaQ4
import Derived.Test.YtelfllbjcpndfaaQ4b
import Derived.Test.YtelfllbjcpndfaaQ3
import Derived.Test.YtelfllbjcpndfaaQ5
import Derived.Test.YtelfllbjcpndfaaQ2
import Derived.Test.YtelfllbjcpndfaaQ1
import Derived.Test.YtelfllbjcpndfaaOutNet
import Derived.Test.YtelfllbjcpndfaaOutPlay
namespace Go.Proofs.Ytelfllbjcpndfaa.Q
open Go.RowKit Go.Proofs.YtelfllbjcpndfaaW.PrintWords Go.Proofs.YtelfllbjcpndfaaW.PrintLast Go.Proofs.YtelfllbjcpndfaaW.PrintMore

section
variable {w0 w w' w1 w2 w3 : World} {g : Nat} {a b c : Value}
theorem bstep {o : Obj} (h : Aside0 (w.heap[g]? = some o)) (hb : Below w.heap.size w w') : Aside0 (w'.heap[g]? = some o) := ⟨blk_below h.out hb⟩
theorem cstep {α : Type} {k : Kd α} {A : Option Addr} {m : Nat} {xs : List α} (h : Aside0 (Kd.C k w A m xs)) (hb : Below w.heap.size w w') : Aside0 (Kd.C k w' A m xs) := ⟨Kd.C_below h.out hb⟩
theorem wstep (h : Aside0 (Below w0.heap.size w0 w)) (hb : Below w.heap.size w w') : Aside0 (Below w0.heap.size w0 w') := ⟨below_step h.out hb⟩
theorem settle3 {x0 x1 x2 : Value} {t : TypeId} (hb : Aside0 (Below w1.heap.size w1 w2)) (hg : Aside0 (g = w1.heap.size)) (hx : Aside0 (w2.heap[g]? = some (.cells #[x0, x1, x2] t (0, 0)))) (e : w3 = ((w2.setCell ⟨g, 0, none⟩ a).setCell ⟨g, 1, none⟩ b).setCell ⟨g, 2, none⟩ c) :
    Aside0 (Below w1.heap.size w1 w3) ∧ Aside0 (w3.heap[g]? = some (.cells #[a, b, c] t (0, 0))) := by
  have h : w1.heap.size ≤ g := by rw [hg.out]; exact Nat.le_refl _
  rw [e]
  exact ⟨⟨((hb.out.setCell h _).setCell h _).setCell h _⟩, ⟨blk_put (cs := #[a, b, x2]) (blk_put (cs := #[a, x1, x2]) (blk_put hx.out 0 _ rfl) 1 _ rfl) 2 _ rfl⟩⟩
theorem settle1 {x0 : Value} {t : TypeId} (hb : Aside0 (Below w1.heap.size w1 w2)) (hg : Aside0 (g = w1.heap.size)) (hx : Aside0 (w2.heap[g]? = some (.cells #[x0] t (0, 0)))) (e : w3 = w2.setCell ⟨g, 0, none⟩ a) :
    Aside0 (Below w1.heap.size w1 w3) ∧ Aside0 (w3.heap[g]? = some (.cells #[a] t (0, 0))) := by
  have h : w1.heap.size ≤ g := by rw [hg.out]; exact Nat.le_refl _
  rw [e]
  exact ⟨⟨hb.out.setCell h _⟩, ⟨blk_put hx.out 0 _ rfl⟩⟩
/-- A variable of three cells is written anew. -/
theorem turn3 {w0 : World} {x0 x1 x2 : Value} {t : TypeId} (hb : Aside0 (Below w0.heap.size w0 w)) (hg : Aside0 (w0.heap.size ≤ g)) (hx : Aside0 (w.heap[g]? = some (.cells #[x0, x1, x2] t (0, 0)))) (e : w3 = ((w.setCell ⟨g, 0, none⟩ a).setCell ⟨g, 1, none⟩ b).setCell ⟨g, 2, none⟩ c) :
    Aside0 (Below w0.heap.size w0 w3) ∧ Aside0 (w3.heap[g]? = some (.cells #[a, b, c] t (0, 0))) := by
  rw [e]
  exact ⟨⟨((hb.out.setCell hg.out _).setCell hg.out _).setCell hg.out _⟩, ⟨blk_put (cs := #[a, b, x2]) (blk_put (cs := #[a, x1, x2]) (blk_put hx.out 0 _ rfl) 1 _ rfl) 2 _ rfl⟩⟩
end
/-- What the law asks where the net score is told. -/
structure OneOk (k : Nat) (W H E r : Int) (B P F T : List Int) (E2 : Int) : Prop where
  free : impl_FreeEdges.f W H E = some (F, 0)
  taken : impl_TakenBoxes.f k W H E = some (T, 0)
  turned : impl_ReflectBoxes.f k W H E 1 = some (W, H, E2, 0)
  net : impl_NetScore.f k W H E2 = some (r, 0)
  len : P.length = F.length
  best : 0 < B.length ↔ 0 < F.length
  open_ : ∃ o : Int, wrap64 (wrap64 (W * H) - (T.length : Int)) = o ∧ decide (r > o) = false ∧ ∃ q : Int, wrap64 (-o) = q ∧ decide (r < q) = false
  short : P.length ≤ 1000
  head : ∀ x rest, P = x :: rest → laws_hasInt.f k B x = some true
  rounds : roundsF k W H r P E 1 0
/-- What the law asks of one box and of a heap. -/
def heapOk (k : Nat) (x : Nat) : Prop := ∃ (R : List (List Int)) (B : List Bool) (v q : Int), 15 / (2 : Int) ^ x = q ∧ impl_NetScore.f k 1 1 q = some (v, 0) ∧ impl_HeapGame.f k x [1] = some (R, 0) ∧ impl_WonPlaces.f k R = some (B, 0) ∧ 0 < B.length ∧ rdOf false B 0 = (v == 1) ∧ (v = 1 ∨ v = -1)
/-- The world while an edge is drawn: its variable (q). -/
structure D26 (wr : World) (q z : Nat) (w : World) : Prop where
  below : Below wr.heap.size wr w
  box : q = 1 → wr.heap.size ≤ z ∧ w.heap[z]? = some (.cells #[.int .i64 0, .int .i64 0, .int .i64 0] 25 (0, 0))
section
variable {wr w w' : World} {q z z1 : Nat}
theorem D26.start : Aside0 (D26 w 0 0 w) := ⟨Below.refl _ _, fun h => by omega⟩
theorem D26.step (h : Aside0 (D26 wr q z w)) (hb : Below w.heap.size w w') : Aside0 (D26 wr q z w') := ⟨below_then h.out.below h.out.below.size hb, fun hq => ⟨(h.out.box hq).1, blk_below (h.out.box hq).2 hb⟩⟩
theorem D26.lit (h : Aside0 (D26 wr 0 z w)) (e : w' = w.alloc (.cells #[.int .i64 0, .int .i64 0, .int .i64 0] 25)) (ez : z1 = w.heap.size) : Aside0 (D26 wr 1 z1 w') := by
  subst e ez
  exact ⟨below_then h.out.below h.out.below.size ((Below.refl _ _).alloc (Nat.le_refl _) _), fun _ => ⟨h.out.below.size, heap_alloc_new w _⟩⟩
theorem D26.put (h : Aside0 (D26 wr 1 z w)) {a b c : Value} (e : w' = ((w.setCell ⟨z, 0, none⟩ a).setCell ⟨z, 1, none⟩ b).setCell ⟨z, 2, none⟩ c) : Aside0 (Below wr.heap.size wr w') ∧ Aside0 (w'.heap[z]? = some (.cells #[a, b, c] 25 (0, 0))) :=
  turn3 ⟨h.out.below⟩ ⟨(h.out.box rfl).1⟩ ⟨(h.out.box rfl).2⟩ e
end
def score26T : Bool × List (List Nat × List Nat) := (true, [([], []), ([], []), ([], []), ([1, 2], [1, 2]), ([3], [3]), ([0, 4], [0, 4]), ([5], [5]), ([6], [6]), ([6], [6]), ([6], [6]), ([], []), ([10, 7, 5, 0, 1, 2, 3, 4, 5, 6, 7, 10], [7, 10]), ([8, 11, 0, 1, 2, 3, 4, 5, 6, 7, 8, 10, 11], [8]), ([9, 12, 0, 1, 2, 3, 4, 5, 6, 7, 8, 9, 10, 11, 12], [9])])
def score26B : List Nat := [0, 0, 0, 6, 14, 31, 63, 127, 127, 127, 0, 1279, 3583, 8191]
theorem score26_tab : rtab .any (opsOf Try.f3 26) = score26T := by kernel_rfl
theorem score26_bits : waitsOk score26T.2 score26B = true := by kernel_rfl
set_option linter.unusedSimpArgs false
set_option linter.unusedVariables false
set_option maxRecDepth 100000
set_option maxHeartbeats 4000000 in
theorem scores_big (A : Option Addr) (c : Nat) (l : List Int) (w : World) (hr : Kd.C (Kd.int .u8) w A l.length l) (hc : l.length ≤ c) (h0 : (l.length : Int) > 4096) :
    Calls Try.prog 3 #[.slice A l.length c] w fun e w' => e = .returned (.bool true) ∧ Below w.heap.size w w' := by
  have HR := Aside0.mk hr
  have h0b : laws_big.f l = some true := by unfold laws_big.f; rw [decide_eq_true h0]
  have H0 := Aside0.mk h0b
  clear hr h0 h0b
  go_enter Try.func3, Try.ntmps3
  go_wp2_with (go_at_call 4; refine (laws_big.calls A c l true _ HR.out hc H0.out).mono ?_; rintro e w2 ⟨rfl, hd2⟩; have HB2 := Aside0.mk hd2.below)
  go_ret
  exact ⟨rfl, HB2.out⟩
set_option maxHeartbeats 40000000 in
theorem scores_good (k : Nat) (A : Option Addr) (c : Nat) (l : List Int) (W H E r e1 : Int) (B P : List Int) (w : World) (hr : Kd.C (Kd.int .u8) w A l.length l) (hc : l.length ≤ c) (h0 : ¬ (l.length : Int) > 4096)
    (HD : Aside0 (spec_DrawNetScore.f k l = some (W, H, E))) (HI1 : Aside0 (impl_NetScore.f k W H E = some (r, e1))) (HS1 : Aside0 (spec_NetScore.f k W H E = some (r, e1))) (HI2 : Aside0 (impl_BestEdges.f k W H E = some (B, e1))) (HS2 : Aside0 (spec_BestEdges.f k W H E = some (B, e1)))
    (HI3 : Aside0 (impl_PlayBoxes.f k W H E = some (P, e1))) (HS3 : Aside0 (spec_PlayBoxes.f k W H E = some (P, e1))) (HL2 : Aside0 (laws_likeInts.f k B B = some true)) (HL3 : Aside0 (laws_likeInts.f k P P = some true))
    (HONE : Aside0 (e1 = 0 → ∃ F T E2, OneOk k W H E r B P F T E2)) (HEAP : Aside0 (∀ x : Nat, 1 ≤ x → x ≤ 4 → heapOk k x)) :
    Calls Try.prog 3 #[.slice A l.length c] w fun e w' => e = .returned (.bool true) ∧ Below w.heap.size w w' := by
  have HR := Aside0.mk hr
  have H0 : Aside0 (laws_big.f l = some false) := ⟨by unfold laws_big.f; rw [decide_eq_false h0]⟩
  have HB := Aside0.mk (Below.refl w.heap.size w)
  have hu := Try.underlying25
  have hu2 := Try.underlying41
  clear hr h0
  go_enter Try.func3, Try.ntmps3
  go_upto_region 10 with (first
    | (go_at_call 4; refine (laws_big.calls A c l false _ HR.out hc H0.out).mono ?_; rintro e w1 ⟨rfl, hd⟩; replace HB := wstep HB hd.below; clear hd)
    | (go_at_call 5; refine (spec_DrawNetScore.calls k A c l W H E _ (Kd.C_below HR.out HB.out) hc HD.out).mono ?_; rintro e w2 ⟨rfl, hb⟩; replace HB := wstep HB hb; clear hb HD)
    | ((with_reducible refine gate_dst (N := 3) rfl ?_); refine zX 3 #[.int .i64 0, .int .i64 0, .int .i64 0] 25 ?_; intro gb hgb w3 hbox hb; have HG3 := Aside0.mk hgb; have HB3 := Aside0.mk hb; have HX3 := Aside0.mk hbox; obtain ⟨p0, p1, p2⟩ := zc3 HX3; obtain ⟨q0, q1, q2⟩ := zf3 HX3; clear hgb hb hbox)
    | (go_at_call 6; obtain ⟨w4, e4⟩ : ∃ z, z = ((w3.setCell ⟨gb, 0, none⟩ (.int .i64 W)).setCell ⟨gb, 1, none⟩ (.int .i64 H)).setCell ⟨gb, 2, none⟩ (.int .i64 E) := ⟨_, rfl⟩; rw [← e4]; obtain ⟨HS4, F4⟩ := settle3 HB3 HG3 HX3 e4; replace HB := wstep HB HS4.out; clear e4 HS4 HB3 HG3 HX3 p0 p1 p2 q0 q1 q2; refine (impl_NetScore.calls k W H E r e1 _ HI1.out).mono ?_; rintro e w5 ⟨rfl, hb⟩; replace HB := wstep HB hb; have FX := bstep F4 hb; clear hb F4 HI1; obtain ⟨p0, p1, p2⟩ := zc3 FX)
    | (go_at_call 7; refine (spec_NetScore.calls k W H E r e1 _ HS1.out).mono ?_; rintro e w6 ⟨rfl, hb⟩; replace HB := wstep HB hb; replace FX := bstep FX hb; clear hb HS1 p0 p1 p2; obtain ⟨p0, p1, p2⟩ := zc3 FX)
    | (go_at_call 8; refine (impl_BestEdges.calls k W H E B e1 _ HI2.out).mono ?_; rintro e w7 ⟨v, rfl, ho, hb⟩; obtain ⟨A8, c8, rfl, l8, hC⟩ := Kd.R_reads ho; have C8 := Aside0.mk hC; replace HB := wstep HB hb; replace FX := bstep FX hb; clear hb ho hC HI2 p0 p1 p2; obtain ⟨p0, p1, p2⟩ := zc3 FX)
    | (go_at_call 9; refine (spec_BestEdges.calls k W H E B e1 _ HS2.out).mono ?_; rintro e w8 ⟨v, rfl, ho, hb⟩; obtain ⟨A10, c10, rfl, l10, hC⟩ := Kd.R_reads ho; have C10 := Aside0.mk hC; replace HB := wstep HB hb; replace FX := bstep FX hb; replace C8 := cstep C8 hb; clear hb ho hC HS2 p0 p1 p2; obtain ⟨p0, p1, p2⟩ := zc3 FX)
    | (go_at_call 10; refine (impl_PlayBoxes.calls k W H E P e1 _ HI3.out).mono ?_; rintro e w9 ⟨v, rfl, ho, hb⟩; obtain ⟨A12, c12, rfl, l12, hC⟩ := Kd.R_reads ho; have C12 := Aside0.mk hC; replace HB := wstep HB hb; replace FX := bstep FX hb; replace C8 := cstep C8 hb; replace C10 := cstep C10 hb; clear hb ho hC HI3 p0 p1 p2; obtain ⟨p0, p1, p2⟩ := zc3 FX)
    | (go_at_call 11; refine (spec_PlayBoxes.calls k W H E P e1 _ HS3.out).mono ?_; rintro e w10 ⟨v, rfl, ho, hb⟩; obtain ⟨A14, c14, rfl, l14, hC⟩ := Kd.R_reads ho; have C14 := Aside0.mk hC; replace HB := wstep HB hb; replace FX := bstep FX hb; replace C8 := cstep C8 hb; replace C10 := cstep C10 hb; replace C12 := cstep C12 hb; clear hb ho hC HS3 p0 p1 p2))
  go_upto_if 103 with (first
    | (go_at_call 12; with_reducible refine (laws_likeInts.calls k A8 c8 B A10 c10 B true _ C8.out l8 C10.out l10 HL2.out).mono ?_; rintro e wa ⟨rfl, hd⟩; have hb := hd.below; replace HB := wstep HB hb; replace FX := bstep FX hb; replace C8 := cstep C8 hb; replace C12 := cstep C12 hb; replace C14 := cstep C14 hb; clear hb hd C10 HL2)
    | (go_at_call 12; with_reducible refine (laws_likeInts.calls k A12 c12 P A14 c14 P true _ C12.out l12 C14.out l14 HL3.out).mono ?_; rintro e wd ⟨rfl, hd⟩; have hb := hd.below; replace HB := wstep HB hb; replace FX := bstep FX hb; replace C8 := cstep C8 hb; replace C12 := cstep C12 hb; clear hb hd C14 HL3))
  go_upto_if 105 with fail
  go_cut [] (fun wc => Aside0 (Below w.heap.size w wc))
  case first =>
    by_cases he : e1 = 0
    · subst he
      obtain ⟨F, T, E2, OK⟩ := HONE.out rfl
      obtain ⟨o, ho, hor, q, hq, hrq⟩ := OK.open_
      have HFR := Aside0.mk OK.free
      have HTK := Aside0.mk OK.taken
      have HTU := Aside0.mk OK.turned
      have HNT := Aside0.mk OK.net
      have HLN := Aside0.mk OK.len
      have hbst : (!decide (0 < B.length) == decide (0 < F.length)) = false := by have h1 := OK.best; by_cases h2 : 0 < B.length <;> simp [h2, h1.symm]
      have HSH := Aside0.mk OK.short
      have HHD := Aside0.mk OK.head
      have HRO := Aside0.mk OK.rounds
      clear OK
      obtain ⟨p0, p1, p2⟩ := zc3 FX
      go_upto_region 17 with (first
        | (go_at_call 13; refine (impl_FreeEdges.calls W H E F 0 _ HFR.out).mono ?_; rintro e wf ⟨v, rfl, ho, hb⟩; obtain ⟨A16, c16, rfl, l16, hC⟩ := Kd.R_reads ho; replace HB := wstep HB hb; replace FX := bstep FX hb; replace C8 := cstep C8 hb; replace C12 := cstep C12 hb; clear hb ho hC HFR p0 p1 p2; obtain ⟨p0, p1, p2⟩ := zc3 FX)
        | (go_at_call 14; refine (impl_TakenBoxes.calls k W H E T 0 _ HTK.out).mono ?_; rintro e wt ⟨v, rfl, ho, hb⟩; obtain ⟨A18, c18, rfl, l18, hC⟩ := Kd.R_reads ho; replace HB := wstep HB hb; replace FX := bstep FX hb; replace C8 := cstep C8 hb; replace C12 := cstep C12 hb; clear hb ho hC HTK p0 p1 p2; obtain ⟨p0, p1, p2⟩ := zc3 FX)
        | (go_at_call 15; refine (impl_ReflectBoxes.calls k W H E 1 W H E2 0 _ HTU.out).mono ?_; rintro e wg ⟨rfl, hb⟩; replace HB := wstep HB hb; replace FX := bstep FX hb; replace C8 := cstep C8 hb; replace C12 := cstep C12 hb; clear hb HTU p0 p1 p2)
        | ((with_reducible refine gate_dst (N := 20) rfl ?_); refine zX 20 #[.int .i64 0, .int .i64 0, .int .i64 0] 25 ?_; intro gt hgt wh hbox hb; have HG3 := Aside0.mk hgt; have HB3 := Aside0.mk hb; have HX3 := Aside0.mk hbox; obtain ⟨p0, p1, p2⟩ := zc3 HX3; obtain ⟨q0, q1, q2⟩ := zf3 HX3; clear hgt hb hbox)
        | (go_at_call 6; obtain ⟨wi, e4⟩ : ∃ z, z = ((wh.setCell ⟨gt, 0, none⟩ (.int .i64 W)).setCell ⟨gt, 1, none⟩ (.int .i64 H)).setCell ⟨gt, 2, none⟩ (.int .i64 E2) := ⟨_, rfl⟩; rw [← e4]; obtain ⟨HS4, F4⟩ := settle3 HB3 HG3 HX3 e4; replace HB := wstep HB HS4.out; replace FX := bstep FX HS4.out; replace C8 := cstep C8 HS4.out; replace C12 := cstep C12 HS4.out; clear e4 HS4 HB3 HG3 HX3 F4 p0 p1 p2 q0 q1 q2; refine (impl_NetScore.calls k W H E2 r 0 _ HNT.out).mono ?_; rintro e wj ⟨rfl, hb⟩; replace HB := wstep HB hb; replace FX := bstep FX hb; replace C8 := cstep C8 hb; replace C12 := cstep C12 hb; clear hb HNT))
      have hln : ((P.length : Int) != (F.length : Int)) = false := by rw [HLN.out]; simp
      obtain ⟨p0, p1, p2⟩ := zc3 FX
      go_upto_region 23 with (((with_reducible refine gate_dst (N := 25) rfl ?_); refine zX 25 #[.int .i64 0, .int .i64 0, .int .i64 0] 25 ?_; intro ga hga wk hbox hb; have HG3 := Aside0.mk hga; have HB3 := Aside0.mk hb; have HX3 := Aside0.mk hbox; obtain ⟨p0, p1, p2⟩ := zc3 HX3; obtain ⟨q0, q1, q2⟩ := zf3 HX3; clear hga hb hbox))
      obtain ⟨wm, em⟩ : ∃ z, z = ((wk.setCell ⟨ga, 0, none⟩ (.int .i64 W)).setCell ⟨ga, 1, none⟩ (.int .i64 H)).setCell ⟨ga, 2, none⟩ (.int .i64 E) := ⟨_, rfl⟩
      rw [← em]
      obtain ⟨HS4, FA⟩ := settle3 HB3 HG3 HX3 em
      have HGA : Aside0 (wj.heap.size ≤ ga) := ⟨by have h2 := HG3.out; omega⟩
      clear em HB3 HG3 HX3 p0 p1 p2 q0 q1 q2 FX hbst hln HLN
      go_wp2
      go_loopg [26, 27, 181] P.length (fun gg v26 v27 v181 wr => ∃ (i : Nat) (E' s t : Int), i ≤ P.length ∧ P.length - i ≤ gg ∧ v26 = .int .i64 s ∧ v27 = .int .i64 t ∧ v181 = .int .i64 i ∧ Aside0 (roundsF k W H r (P.drop i) E' s t) ∧ Aside0 (Below wj.heap.size wj wr) ∧ Aside0 (wr.heap[ga]? = some (.cells #[.int .i64 W, .int .i64 H, .int .i64 E'] 25 (0, 0))))
      case atStart => exact ⟨0, E, 1, 0, Nat.zero_le _, by omega, rfl, rfl, rfl, HRO, HS4, FA⟩
      case round =>
        clear HRO HS4 FA
        obtain ⟨i, E', s, t, hi, hgg, rfl, rfl, rfl, HRO, HBL, FA⟩ := hrel
        have hsh := HSH.out
        by_cases hlt : i < P.length
        · have hltz : (i : Int) < (P.length : Int) := by omega
          have hltb : decide ((i : Int) < (P.length : Int)) = true := decide_eq_true hltz
          obtain ⟨x, rest, hd⟩ : ∃ x rest, P.drop i = x :: rest := ⟨_, _, List.drop_eq_getElem_cons hlt⟩
          have hrd : rd P (i : Int) = x := by
            have h1 := List.drop_eq_getElem_cons hlt
            rw [hd] at h1
            injection h1 with h2 h3
            unfold rd
            rw [Int.toNat_natCast, List.getD_eq_getElem?_getD, List.getElem?_eq_getElem hlt, h2]
            rfl
          have hdr : P.drop (i + 1) = rest := by
            have h1 := List.drop_eq_getElem_cons hlt
            rw [hd] at h1
            injection h1 with h2 h3
            exact h3.symm
          have hro := HRO.out
          rw [hd] at hro
          obtain ⟨E3, n, hadd, hs, ht, hn, hnext⟩ := hro
          have HADD := Aside0.mk hadd
          have HNX : Aside0 (roundsF k W H r (P.drop (i + 1)) E3 (sgn s n) (t + s * n)) := ⟨by rw [hdr]; exact hnext⟩
          have C12w := Kd.C_below C12.out HBL.out
          obtain ⟨ad, e1_, hx⟩ := Kd.at_int C12w (i : Int) (by omega) hltz
          subst e1_
          rw [hrd, Int.toNat_natCast] at hx
          have HEX := Aside0.mk hx
          obtain ⟨p0, p1, p2⟩ := zc3 FA
          have HH0 : Aside0 (i = 0 → laws_hasInt.f k B x = some true) := ⟨fun h0 => HHD.out x rest (by rw [← hd, h0, List.drop_zero])⟩
          have HST := Aside0.mk (show (s = 1 ∨ s = -1) ∧ (-100 ≤ t ∧ t ≤ 100) ∧ (0 ≤ n ∧ n ≤ 9) from ⟨hs, ht, hn⟩)
          clear hd hdr hrd hadd hnext HRO C12w hx hs ht hn
          go_upto_region 26 with fail
          have HSS : Aside0 (∀ W_ : World, Below wr.heap.size wr W_ → W_.cell? ⟨ga, 0, none⟩ = some (.int .i64 W) ∧ W_.cell? ⟨ga, 1, none⟩ = some (.int .i64 H) ∧ W_.cell? ⟨ga, 2, none⟩ = some (.int .i64 E') ∧ W_.cell? (ad.add i) = some (.int .i64 x)) := ⟨fun W_ hW => ⟨(zc3 (bstep FA hW)).1, (zc3 (bstep FA hW)).2.1, (zc3 (bstep FA hW)).2.2, pw_cell_below hW HEX.out⟩⟩
          refine start_ (n := 14) (S := (fun w' => w'.cell? ⟨ga, 0, none⟩ = some (.int .i64 W) ∧ w'.cell? ⟨ga, 1, none⟩ = some (.int .i64 H) ∧ w'.cell? ⟨ga, 2, none⟩ = some (.int .i64 E') ∧ w'.cell? (ad.add i) = some (.int .i64 x))) (ds := []) #[false, false, false, false, false, false, false, false, false, false, false, false, false, false] (by kernel_rfl) rfl rfl (HSS.out _ (below_drew (Below.refl _ _))) (fun hHeld => ?_); refine with_tabW score26_tab score26_bits (fun HT_ HW_ => ?_)
          have HD0 : Aside0 (Below wr.heap.size wr wr.drew) := ⟨below_drew (Below.refl _ _)⟩
          replace HSS : Aside0 (∀ W_ : World, Below wr.drew.heap.size wr.drew W_ → W_.cell? ⟨ga, 0, none⟩ = some (.int .i64 W) ∧ W_.cell? ⟨ga, 1, none⟩ = some (.int .i64 H) ∧ W_.cell? ⟨ga, 2, none⟩ = some (.int .i64 E') ∧ W_.cell? (ad.add i) = some (.int .i64 x)) := ⟨fun W_ hW => HSS.out W_ (below_then HD0.out HD0.out.size hW)⟩
          generalize wr.drew = wS at HD0 HSS hHeld ⊢
          have HE0 : Aside0 (D26 wS 0 0 wS) := D26.start
          refine zT HT_ HW_ hHeld 0 (some 185) rfl rfl ?_
          refine zP HT_ 1 (some 186) rfl rfl ?_
          refine zP HT_ 2 (some 187) rfl rfl ?_
          refine zP HT_ 3 (some 188) rfl rfl ?_
          refine zT HT_ HW_ hHeld 4 (some 189) rfl rfl ?_
          refine join_ (σ := Nat) (3) #[true, true, true, true, true, true, true, true, true, true, true, false, false, false] (fun s => [(190, .tuple #[.agg #[.int .i64 W, .int .i64 H, .int .i64 E3], .int .i64 n, .int .i64 0]), (29, .pointer (some ⟨s, 0, none⟩)), (184, .tuple #[.agg #[.int .i64 W, .int .i64 H, .int .i64 E3], .int .i64 n, .int .i64 0]), (191, .agg #[.int .i64 W, .int .i64 H, .int .i64 E3]), (192, .int .i64 n), (193, .int .i64 0)]) (fun s w' => D26 wS 1 s w') ?hcont (fun hcont => ?h)
          case h =>
            refine two_ (i := 5) (j := 10) (Ni := some 190) (Nj := some 29) #[true, true, true, true, true, true, false, false, false, false, false, false, false, false] #[true, true, true, true, true, false, false, false, false, false, true, false, false, false] rfl rfl rfl rfl (two_of HT_.out (by kernel_rfl)) (by decide) (by decide) (fun K hK => ?_) (fun K hK => ?_)
            · refine goes_ Try.func16 (by kernel_rfl) rfl #[.agg #[.int .i64 W, .int .i64 H, .int .i64 E'], .int .i64 x] (by rfl) rfl rfl zM ?_
              with_reducible refine (impl_AddEdge.calls k W H E' x W H E3 n 0 _ HADD.out).mono ?_
              rintro e w21 ⟨rfl, hb⟩
              have HE21 := D26.step HE0 hb
              clear hb
              refine ⟨_, rfl, ?_⟩
              refine hK.out _ _ (HSS.out _ HE21.out.below) (fun hHeld => ?_)
              clear hK K
              refine zW (some 190) ?_
              refine zP HT_ 6 (some 184) rfl rfl ?_
              refine zP HT_ 7 (some 191) rfl rfl ?_
              refine zP HT_ 8 (some 192) rfl rfl ?_
              refine zP HT_ 9 (some 193) rfl rfl ?_
              refine one_ (i := 10) (N := some 29) #[true, true, true, true, true, true, true, true, true, true, true, false, false, false] rfl rfl (one_of HT_.out (by kernel_rfl)) (by decide) (fun K hK => ?_)
              obtain ⟨w22, ew⟩ : ∃ z, z = w21.alloc (.cells #[.int .i64 0, .int .i64 0, .int .i64 0] 25) := ⟨_, rfl⟩
              obtain ⟨z22, ez⟩ : ∃ z, z = w21.heap.size := ⟨_, rfl⟩
              refine event_step (w1 := w22) (v := .pointer (some ⟨z22, 0, none⟩)) (by rfl) (by rw [ew, ez]; first | (go_simp; done) | (go_simp; rfl)) ?_
              have HE22 := D26.lit HE21 ew ez
              clear ew ez
              refine hK.out _ _ (HSS.out _ HE22.out.below) (fun hHeld => ?_)
              clear hK K
              refine zW (some 29) ?_
              refine norm_ ?_ (hcont z22 w22 HE22.out)
              simp only [putAll, Act.put, List.setIfInBounds_toArray, List.set_cons_zero, List.set_cons_succ]
            · obtain ⟨w31, ew⟩ : ∃ z, z = wS.alloc (.cells #[.int .i64 0, .int .i64 0, .int .i64 0] 25) := ⟨_, rfl⟩
              obtain ⟨z31, ez⟩ : ∃ z, z = wS.heap.size := ⟨_, rfl⟩
              refine event_step (w1 := w31) (v := .pointer (some ⟨z31, 0, none⟩)) (by rfl) (by rw [ew, ez]; first | (go_simp; done) | (go_simp; rfl)) ?_
              have HE31 := D26.lit HE0 ew ez
              clear ew ez
              refine hK.out _ _ (HSS.out _ HE31.out.below) (fun hHeld => ?_)
              clear hK K
              refine zW (some 29) ?_
              refine one_ (i := 5) (N := some 190) #[true, true, true, true, true, true, false, false, false, false, true, false, false, false] rfl rfl (one_of HT_.out (by kernel_rfl)) (by decide) (fun K hK => ?_)
              refine goes_ Try.func16 (by kernel_rfl) rfl #[.agg #[.int .i64 W, .int .i64 H, .int .i64 E'], .int .i64 x] (by rfl) rfl rfl zM ?_
              with_reducible refine (impl_AddEdge.calls k W H E' x W H E3 n 0 _ HADD.out).mono ?_
              rintro e w32 ⟨rfl, hb⟩
              have HE32 := D26.step HE31 hb
              clear hb
              refine ⟨_, rfl, ?_⟩
              refine hK.out _ _ (HSS.out _ HE32.out.below) (fun hHeld => ?_)
              clear hK K
              refine zW (some 190) ?_
              refine zP HT_ 6 (some 184) rfl rfl ?_
              refine zP HT_ 7 (some 191) rfl rfl ?_
              refine zP HT_ 8 (some 192) rfl rfl ?_
              refine zP HT_ 9 (some 193) rfl rfl ?_
              refine norm_ ?_ (hcont z31 w32 HE32.out)
              simp only [putAll, Act.put, List.setIfInBounds_toArray, List.set_cons_zero, List.set_cons_succ]
          case hcont =>
            intro z w6 HF6
            have HF := Aside0.mk HF6
            clear HF6 hHeld HE0
            have hHeld := HSS.out _ HF.out.below
            refine norm_ (a' := ?_) ?_ ?_
            rotate_left
            · simp only [putAll, Act.put, List.setIfInBounds_toArray, List.set_cons_zero, List.set_cons_succ]
              rfl
            have HX6 : Aside0 (w6.heap[z]? = some (.cells #[.int .i64 0, .int .i64 0, .int .i64 0] 25 (0, 0))) := ⟨(HF.out.box rfl).2⟩
            obtain ⟨c0, c1, c2⟩ := zc3 HX6
            obtain ⟨f0, f1, f2⟩ := zf3 HX6
            refine one_ (i := 11) (N := none) #[true, true, true, true, true, true, true, true, true, true, true, true, false, false] rfl rfl (one_of HT_.out (by kernel_rfl)) (by decide) (fun K hK => ?_)
            obtain ⟨w7, e7⟩ : ∃ q, q = ((w6.setCell ⟨z, 0, none⟩ (.int .i64 W)).setCell ⟨z, 1, none⟩ (.int .i64 H)).setCell ⟨z, 2, none⟩ (.int .i64 E3) := ⟨_, rfl⟩
            refine skip_ (w1 := w7) (by rfl) rfl (by rw [e7]; first | (go_simp; done) | (go_simp; rfl)) ?_
            obtain ⟨HB7, HZ7⟩ := D26.put HF e7
            clear e7 HX6 c0 c1 c2 f0 f1 f2
            refine hK.out _ _ (HSS.out _ HB7.out) (fun hHeld => ?_)
            clear hK K
            refine zP HT_ 12 (some 30) rfl rfl ?_
            refine zP HT_ 13 (some 31) rfl rfl ?_
            refine done_ (done_of HT_.out (by kernel_rfl)) ?_
            have HB8 := Aside0.mk (below_then HD0.out HD0.out.size HB7.out)
            have HNE : Aside0 (ga < wr.heap.size) := ⟨blk_lt FA.out⟩
            have HX0 : Aside0 (w7.cell? (ad.add i) = some (.int .i64 x)) := ⟨pw_cell_below HB8.out HEX.out⟩
            replace FA := bstep FA HB8.out
            have HBL2 := Aside0.mk (below_then HBL.out HBL.out.size HB8.out)
            have C8w := cstep C8 HBL2.out
            clear HSS HF HB7 HD0 HBL hHeld HT_ HW_ p0 p1 p2 HB8 HEX HADD
            go_upto_region 27 with fail
            go_cut [207] (fun v207 wc => v207 = .bool false ∧ Aside0 (Below w7.heap.size w7 wc))
            case first =>
              by_cases hi0 : i = 0
              · have HH := Aside0.mk (HH0.out hi0)
                subst hi0
                have hx0 := HX0.out
                have hx1 : w7.cell? ad = some (.int .i64 x) := by simpa [Addr.add] using HX0.out
                go_wp2_with (go_at_call 17; refine (laws_hasInt.calls k A8 c8 B x true _ C8w.out l8 HH.out).mono ?_; rintro e wq ⟨rfl, hd⟩; have HQ := Aside0.mk hd.below; clear hd)
                go_meet
                case rel => exact ⟨rfl, HQ⟩
              · have hib : ((i : Int) == 0) = false := beq_eq_false_iff_ne.2 (by omega)
                clear hi0
                go_wp2
                go_meet
                case rel => exact ⟨rfl, ⟨Below.refl _ _⟩⟩
            case rest =>
              obtain ⟨rfl, HBC⟩ := hcut
              clear HH0 HX0 C8w
              replace FA := bstep FA HBC.out
              replace HZ7 := bstep HZ7 HBC.out
              have HBL3 := Aside0.mk (below_then HBL2.out HBL2.out.size HBC.out)
              clear HBL2 HBC
              obtain ⟨⟨hs, ht, hn⟩⟩ := HST
              obtain ⟨m, hm⟩ := zj (wrap64 (s * n))
              have hmw : IntKind.i64.wrap (s * n) = m := (i64_w _).trans hm
              obtain ⟨t2, ht2⟩ := zj (wrap64 (t + m))
              have htw : IntKind.i64.wrap (t + m) = t2 := (i64_w _).trans ht2
              obtain ⟨s2, hs2⟩ := zj (wrap64 (-s))
              have hsw : IntKind.i64.wrap (-s) = s2 := (i64_w _).trans hs2
              have HAR : Aside0 (t2 = t + s * n ∧ s2 = -s) := ⟨by
                have e1 : s * n = n ∨ s * n = -n := by rcases hs with rfl | rfl <;> omega
                have e2 : m = s * n := by rw [← hm]; generalize s * n = q at e1; unfold wrap64; omega
                have e3 : t2 = t + m := by rw [← ht2]; rw [e2]; generalize s * n = q at e1; unfold wrap64; omega
                refine ⟨by rw [e3, e2], ?_⟩
                rw [← hs2]
                unfold wrap64
                omega⟩
              obtain ⟨c0, c1, c2⟩ := zc3 HZ7
              obtain ⟨p0, p1, p2⟩ := zc3 FA
              obtain ⟨f0, f1, f2⟩ := zf3 FA
              clear hs ht hn
              by_cases hn0 : n = 0
              · have hnb : (n == 0) = true := by simp [hn0]
                have HN0 := Aside0.mk hn0
                clear hn0
                go_wp2
                obtain ⟨w9, e9⟩ : ∃ z, z = ((wc.setCell ⟨ga, 0, none⟩ (.int .i64 W)).setCell ⟨ga, 1, none⟩ (.int .i64 H)).setCell ⟨ga, 2, none⟩ (.int .i64 E3) := ⟨_, rfl⟩
                rw [← e9]
                obtain ⟨HBT, FA9⟩ := turn3 HBL3 HGA FA e9
                go_roundg (P.length - (i + 1))
                case measure => omega
                case rel => exact ⟨i + 1, E3, s2, t2, by omega, by omega, rfl, rfl, rfl, ⟨by have h1 := HNX.out; unfold sgn at h1; rw [if_pos HN0.out] at h1; rw [HAR.out.1, HAR.out.2]; exact h1⟩, HBT, FA9⟩
              · have hnb : (n == 0) = false := by simp [hn0]
                have HN0 := Aside0.mk hn0
                clear hn0
                go_wp2
                obtain ⟨w9, e9⟩ : ∃ z, z = ((wc.setCell ⟨ga, 0, none⟩ (.int .i64 W)).setCell ⟨ga, 1, none⟩ (.int .i64 H)).setCell ⟨ga, 2, none⟩ (.int .i64 E3) := ⟨_, rfl⟩
                rw [← e9]
                obtain ⟨HBT, FA9⟩ := turn3 HBL3 HGA FA e9
                go_roundg (P.length - (i + 1))
                case measure => omega
                case rel => exact ⟨i + 1, E3, s, t2, by omega, by omega, rfl, rfl, rfl, ⟨by have h1 := HNX.out; unfold sgn at h1; rw [if_neg HN0.out] at h1; rw [HAR.out.1]; exact h1⟩, HBT, FA9⟩
        · have hltb : decide ((i : Int) < (P.length : Int)) = false := decide_eq_false (by omega)
          have hrt : t = r := by
            have h1 := HRO.out
            rw [List.drop_eq_nil_of_le (by omega)] at h1
            exact h1
          subst hrt
          go_wp2
          go_meet
          case rel => exact wstep HB HBL.out
    · have heb : (e1 == 0) = false := by simp [he]
      clear he
      go_wp2
      go_meet
      case rel => exact HB
  case rest =>
    replace HB := hcut
    clear hcut FX C8 C12
    go_wp2
    go_loopg [32] 4 (fun gg v32 wr => ∃ x : Nat, 1 ≤ x ∧ x ≤ 5 ∧ 5 - x ≤ gg ∧ v32 = .int .i64 x ∧ Aside0 (Below w.heap.size w wr))
    case atStart => exact ⟨1, by omega, by omega, by omega, rfl, HB⟩
    case round =>
      clear HB
      obtain ⟨x, hx1, hx5, hgg, rfl, HB⟩ := hrel
      by_cases hlt : x < 5
      · have hltb : decide ((x : Int) < 5) = true := decide_eq_true (by omega)
        obtain ⟨R, D, v, q, hq, hnet, hheap, hwon, hlen, hb0, hv⟩ := HEAP.out x hx1 (by omega)
        have HNT := Aside0.mk hnet
        have HHG := Aside0.mk hheap
        have HWP := Aside0.mk hwon
        have HLN := Aside0.mk hlen
        have HB0 := Aside0.mk hb0
        have HV := Aside0.mk hv
        obtain ⟨y, hy⟩ : ∃ y : List Int, y = [1] := ⟨_, rfl⟩
        have HY := Aside0.mk hy
        rw [← hy] at hheap
        replace HHG := Aside0.mk hheap
        have HX5 : Aside0 (1 ≤ x ∧ x < 5) := ⟨by omega, hlt⟩
        clear hnet hheap hwon hlen hb0 hv hy
        go_upto_region 43 with (first
          | ((with_reducible refine gate_dst (N := 33) rfl ?_); refine zX 33 #[.int .i64 0, .int .i64 0, .int .i64 0] 25 ?_; intro ga hga wk hbox hb; have HG3 := Aside0.mk hga; have HB3 := Aside0.mk hb; have HX3 := Aside0.mk hbox; obtain ⟨p0, p1, p2⟩ := zc3 HX3; obtain ⟨q0, q1, q2⟩ := zf3 HX3; clear hga hb hbox)
          | (go_at_call 6; obtain ⟨wi, e4⟩ : ∃ z, z = ((wk.setCell ⟨ga, 0, none⟩ (.int .i64 1)).setCell ⟨ga, 1, none⟩ (.int .i64 1)).setCell ⟨ga, 2, none⟩ (.int .i64 q) := ⟨_, rfl⟩; rw [← e4]; obtain ⟨HS4, F4⟩ := settle3 HB3 HG3 HX3 e4; replace HB := wstep HB HS4.out; clear e4 HS4 HB3 HG3 HX3 F4 p0 p1 p2 q0 q1 q2; refine (impl_NetScore.calls k 1 1 q v 0 _ HNT.out).mono ?_; rintro e wj ⟨rfl, hb⟩; replace HB := wstep HB hb; clear hb HNT)
          | ((with_reducible refine gate_dst (N := 237) rfl ?_); refine Kd.R_lit (Kd.int .i64) _ 2 ?hg (N := 237) ?hd (xs := ([1] : List Int)) (inner := [.int .i64 1]) (ok := fun _ => True) (okp := fun _ => True) ?hr ?hp (fun _ hk => hk) trivial (Below.refl _ _) (Nat.le_refl _) (by simp) ?_; (case hd => rfl); (case hg => rfl); (case hr => first | (go_simp; done) | (go_simp; rfl)); (case hp => exact (Reps.one (show Kd.M (Kd.int .i64) _ _ _ 1 [.int .i64 1] from rfl) (Reps.none _ _))); intro v18 wl ho hb hg_ hnew_; clear hg_ hnew_; rw [← HY.out] at ho; replace HB := wstep HB hb; obtain ⟨Ay, cy, rfl, ly, hC⟩ := Kd.R_reads ho; have CY := Aside0.mk hC; clear ho hb hC)
          | (go_at_call 18; with_reducible refine (impl_HeapGame.calls k x Ay cy y R 0 _ CY.out ly HHG.out).mono ?_; rintro e wm ⟨v0, rfl, hS, hb⟩; obtain ⟨Ah, ch, rfl, lh, hC⟩ := Kd.S_reads hS; have CH := Aside0.mk hC; replace HB := wstep HB hb; clear hS hb hC CY HHG)
          | ((with_reducible refine gate_dst (N := 36) rfl ?_); refine zX 36 #[.slice none 0 0] 41 ?_; intro gh hgh wn hbox hb; have HG3 := Aside0.mk hgh; have HB3 := Aside0.mk hb; have HX3 := Aside0.mk hbox; have p0 := zc1 HX3; have q0 := zf1 HX3; clear hgh hb hbox)
          | (go_at_call 19; obtain ⟨wp, e4⟩ : ∃ z, z = wn.setCell ⟨gh, 0, none⟩ (.slice Ah R.length ch) := ⟨_, rfl⟩; rw [← e4]; obtain ⟨HS4, F4⟩ := settle1 HB3 HG3 HX3 e4; replace HB := wstep HB HS4.out; replace CH := cstep CH HS4.out; clear e4 HS4 HB3 HG3 HX3 F4 p0 q0; with_reducible refine (impl_WonPlaces.calls k Ah ch R D 0 _ CH.out lh HWP.out).mono ?_; rintro e wq ⟨v0, rfl, ho, hb⟩; obtain ⟨Aw, cw, rfl, lw, hC⟩ := Kd.R_reads ho; have CW := Aside0.mk hC; replace HB := wstep HB hb; clear ho hb hC CH HWP))
        obtain ⟨ad, e1_, hx⟩ := Kd.at_bool CW.out 0 (by omega) (by have := HLN.out; omega)
        subst e1_
        have hlw : (0 : Int) < (D.length : Int) := by have := HLN.out; omega
        have hx2 : wq.cell? ad = some (.bool (rdOf false D 0)) := by simpa [Addr.add] using hx
        rw [HB0.out] at hx hx2
        rcases HV.out with hv | hv
        · rw [hv, show ((1 : Int) == 1) = true from rfl] at hx hx2
          subst hv
          clear HB0 HV
          go_wp2
          go_roundg (5 - (x + 1))
          case measure => omega
          case rel => exact ⟨x + 1, by omega, by omega, by omega, by first | rfl | rw [wrap_upd x (by omega)], HB⟩
        · rw [hv, show ((-1 : Int) == 1) = false from rfl] at hx hx2
          subst hv
          clear HB0 HV
          go_wp2
          go_roundg (5 - (x + 1))
          case measure => omega
          case rel => exact ⟨x + 1, by omega, by omega, by omega, by first | rfl | rw [wrap_upd x (by omega)], HB⟩
      · have hltb : decide ((x : Int) < 5) = false := decide_eq_false (by omega)
        go_wp2
        go_ret
        exact ⟨rfl, HB.out⟩
end Go.Proofs.Ytelfllbjcpndfaa.Q
