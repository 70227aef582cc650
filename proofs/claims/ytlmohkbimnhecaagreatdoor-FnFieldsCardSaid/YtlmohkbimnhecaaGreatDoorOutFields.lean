/-
  The law FnFields itself, walked along the way on which all holds. Codes within memory's reach.
-/
import Derived.Test.YtlmohkbimnhecaaGreatDoorSq
import Derived.Test.YtlmohkbimnhecaaGreatDoorFieldsDefs
import Derived.Test.YtlmohkbimnhecaaGreatDoorWEqStruct
namespace Go.Proofs.YtlmohkbimnhecaaGreatDoor.Q
open Go.RowKit Go.Proofs.YtlmohkbimnhecaaGreatDoorW.PrintWords Go.Proofs.YtlmohkbimnhecaaGreatDoorW.PrintLast Go.Proofs.YtlmohkbimnhecaaGreatDoorW.PrintMore

theorem eqA25 (d : Nat) (w : World) (x0 y0 x1 y1 x2 y2 x3 y3 : Int) :
    (Op.equalIn (d + 2) 25 (.agg #[.int .i64 x0, .int .i64 x1, .int .i64 x2, .int .i64 x3]) (.agg #[.int .i64 y0, .int .i64 y1, .int .i64 y2, .int .i64 y3])).run Tryz.prog w = .ok (x0 == y0 && (x1 == y1 && (x2 == y2 && (x3 == y3)))) w := by
  refine eqA_of Tryz.underlying25 (by kernel_rfl) ?_
  refine eqf_cons (by rfl) (by go_simp; rfl) (by go_simp; rfl) (by go_simp) ?_
  refine eqf_cons (by rfl) (by go_simp; rfl) (by go_simp; rfl) (by go_simp) ?_
  refine eqf_cons (by rfl) (by go_simp; rfl) (by go_simp; rfl) (by go_simp) ?_
  exact eqf_last (by rfl) (by go_simp; rfl) (by go_simp; rfl) (by go_simp)
theorem wrap_up2 (i : Nat) (h : i ≤ 1000) : wrap64 ((i : Int) + 1) = ((i + 1 : Nat) : Int) := by
  unfold wrap64
  omega
section
variable {w w' w0 w1 w2 w3 : World} {g : Nat} {a b c d : Value}
theorem bstep {o : Obj} (h : Aside0 (w.heap[g]? = some o)) (hb : Below w.heap.size w w') : Aside0 (w'.heap[g]? = some o) := ⟨blk_below h.out hb⟩
theorem bdrew {o : Obj} (h : Aside0 (w.heap[g]? = some o)) : Aside0 (w.drew.heap[g]? = some o) := ⟨blk_drew h.out⟩
theorem cstep {α : Type} {k : Kd α} {A : Option Addr} {m : Nat} {xs : List α} (h : Aside0 (Kd.C k w A m xs)) (hb : Below w.heap.size w w') : Aside0 (Kd.C k w' A m xs) := ⟨Kd.C_below h.out hb⟩
theorem cdrew {α : Type} {k : Kd α} {A : Option Addr} {m : Nat} {xs : List α} (h : Aside0 (Kd.C k w A m xs)) : Aside0 (Kd.C k w.drew A m xs) := ⟨Kd.C_drew h.out⟩
theorem wstep (h : Aside0 (Below w0.heap.size w0 w)) (hb : Below w.heap.size w w') : Aside0 (Below w0.heap.size w0 w') := ⟨below_step h.out hb⟩
theorem wdrew (h : Aside0 (Below w0.heap.size w0 w)) : Aside0 (Below w0.heap.size w0 w.drew) := ⟨below_drew1 h.out⟩
theorem settle (hb : Aside0 (Below w1.heap.size w1 w2)) (hg : Aside0 (g = w1.heap.size)) (e : w3 = (((w2.setCell ⟨g, 0, none⟩ a).setCell ⟨g, 1, none⟩ b).setCell ⟨g, 2, none⟩ c).setCell ⟨g, 3, none⟩ d) : Aside0 (Below w1.heap.size w1 w3) := by
  have h : w1.heap.size ≤ g := by rw [hg.out]; exact Nat.le_refl _
  rw [e]
  exact ⟨((((hb.out.setCell h _).setCell h _).setCell h _).setCell h _)⟩
theorem filled {x0 x1 x2 x3 : Value} {t : TypeId} (h : Aside0 (w2.heap[g]? = some (.cells #[x0, x1, x2, x3] t (0, 0)))) (e : w3 = (((w2.setCell ⟨g, 0, none⟩ a).setCell ⟨g, 1, none⟩ b).setCell ⟨g, 2, none⟩ c).setCell ⟨g, 3, none⟩ d) : Aside0 (w3.heap[g]? = some (.cells #[a, b, c, d] t (0, 0))) := by
  rw [e]
  exact ⟨blk_put (cs := #[a, b, c, x3]) (blk_put (cs := #[a, b, x2, x3]) (blk_put (cs := #[a, x1, x2, x3]) (blk_put h.out 0 _ rfl) 1 _ rfl) 2 _ rfl) 3 _ rfl⟩
theorem settle2 {x0 x1 x2 x3 y0 y1 y2 y3 a' b' c' d' : Value} {t : TypeId} {g' : Nat} (hb : Aside0 (Below w0.heap.size w0 w1)) (hg : Aside0 (g = w0.heap.size)) (hx : Aside0 (w2.heap[g]? = some (.cells #[x0, x1, x2, x3] t (0, 0)))) (hb' : Aside0 (Below w1.heap.size w1 w2)) (hg' : Aside0 (g' = w1.heap.size)) (hx' : Aside0 (w2.heap[g']? = some (.cells #[y0, y1, y2, y3] t (0, 0)))) (hn : g ≠ g')
    (e : w3 = (((((((w2.setCell ⟨g, 0, none⟩ a).setCell ⟨g, 1, none⟩ b).setCell ⟨g, 2, none⟩ c).setCell ⟨g, 3, none⟩ d).setCell ⟨g', 0, none⟩ a').setCell ⟨g', 1, none⟩ b').setCell ⟨g', 2, none⟩ c').setCell ⟨g', 3, none⟩ d') :
    Aside0 (Below w0.heap.size w0 w3) ∧ Aside0 (w3.heap[g]? = some (.cells #[a, b, c, d] t (0, 0))) ∧ Aside0 (w3.heap[g']? = some (.cells #[a', b', c', d'] t (0, 0))) := by
  obtain ⟨w4, e4⟩ : ∃ z, z = (((w2.setCell ⟨g, 0, none⟩ a).setCell ⟨g, 1, none⟩ b).setCell ⟨g, 2, none⟩ c).setCell ⟨g, 3, none⟩ d := ⟨_, rfl⟩
  rw [← e4] at e
  have h4 := filled hx e4
  have h5 : Aside0 (w4.heap[g']? = some (.cells #[y0, y1, y2, y3] t (0, 0))) := ⟨by
    rw [e4]
    exact blk_far (blk_far (blk_far (blk_far hx'.out hn.symm _) hn.symm _) hn.symm _) hn.symm _⟩
  have s1 : w0.heap.size ≤ g := by rw [hg.out]; exact Nat.le_refl _
  have s2 : w0.heap.size ≤ g' := by rw [hg'.out]; exact hb.out.size
  refine ⟨⟨?_⟩, ⟨?_⟩, filled h5 e⟩
  · have k := below_then hb.out hb.out.size hb'.out
    rw [e, e4]
    exact (((((((k.setCell s1 _).setCell s1 _).setCell s1 _).setCell s1 _).setCell s2 _).setCell s2 _).setCell s2 _).setCell s2 _
  · rw [e]
    exact blk_far (blk_far (blk_far (blk_far h4.out hn _) hn _) hn _) hn _
end
def fields8T : Bool × List (List Nat × List Nat) := (true, [([], []), ([], []), ([0, 1], [0, 1]), ([2], [2]), ([3], [3]), ([3], [3]), ([4, 5, 3], [3, 4, 5]), ([3, 6], [3, 6]), ([7, 3], [7]), ([8], [8]), ([8], [8]), ([9, 10, 8], [8, 9, 10]), ([8, 11], [8, 11]), ([12, 8], [12]), ([13], [13]), ([13], [13]), ([14, 15, 13, 13], [13, 14, 15]), ([16, 13], [13, 16]), ([13, 17], [13, 17]), ([18, 16], [18]), ([19], [19]), ([20, 19, 19], [19, 20]), ([19], [19]), ([22, 21, 19], [19, 22]), ([21, 23, 19], [19, 21, 23]), ([19, 24], [19, 24])])
def fields8B : List Nat := [0, 0, 3, 7, 15, 15, 63, 127, 255, 511, 511, 2047, 4095, 8191, 16383, 16383, 65535, 131071, 262143, 524287, 1048575, 2097151, 1048575, 8388607, 16777215, 33554431]
theorem fields8_tab : rtab .any (opsOf Tryz.f3 8) = fields8T := by kernel_rfl
theorem fields8_bits : waitsOk fields8T.2 fields8B = true := by kernel_rfl
attribute [local go_sem high] eqA25
set_option linter.unusedSimpArgs false
set_option linter.unusedVariables false
set_option maxRecDepth 100000
set_option maxHeartbeats 4000000 in
theorem fields_big (A : Option Addr) (c : Nat) (l : List Int) (w : World) (hr : Kd.C (Kd.int .u8) w A l.length l) (hc : l.length ≤ c) (h0 : (l.length : Int) > 4096) :
    Calls Tryz.prog 3 #[.slice A l.length c] w fun e w' => e = .returned (.bool true) ∧ Below w.heap.size w w' := by
  have HR := Aside0.mk hr
  have h0b : laws_big.f l = some true := by unfold laws_big.f; rw [decide_eq_true h0]
  have H0 := Aside0.mk h0b
  clear hr h0 h0b
  go_enter Tryz.func3, Tryz.ntmps3
  go_wp2_with (go_at_call 4; refine (laws_big.calls A c l true _ HR.out hc H0.out).mono ?_; rintro e w2 ⟨rfl, hd2⟩; have HB2 := Aside0.mk hd2.below)
  go_ret
  exact ⟨rfl, HB2.out⟩
set_option maxHeartbeats 40000000 in
theorem fields_good (k : Nat) (A : Option Addr) (c : Nat) (l : List Int) (fP fL fR fB gm pl pt nP nL nR nB e1 e3 mP mL mR mB hP hL hR hB uP uL uR uB e4 xP xL xR xB tP tL tR tB e5 dP dL dR dB x4 e6 jP jL jR jB x5 y5 e7 rP rL rR rB e8 e9 : Int) (S : List Int) (b0_ f6 f7 : Bool) (T6 T9 : ByteArray) (w : World) (hr : Kd.C (Kd.int .u8) w A l.length l) (hc : l.length ≤ c) (h0 : ¬ (l.length : Int) > 4096)
    (HD1 : Aside0 (spec_DrawColourPoint.f k l = some (fP, fL, fR, fB, gm, pl, pt)))
    (HI1 : Aside0 (impl_ColourPoint.f k fP fL fR fB gm pl pt = some (nP, nL, nR, nB, e1)))
    (HS1 : Aside0 (spec_ColourPoint.f k fP fL fR fB gm pl pt = some (nP, nL, nR, nB, e1)))
    (HI2 : Aside0 (impl_PointsFor.f k fP fL fR fB gm pl = some (S, e3)))
    (HS2 : Aside0 (spec_PointsFor.f k fP fL fR fB gm pl = some (S, e3)))
    (HL2 : Aside0 (laws_likeInts.f k S S = some true))
    (HI3 : Aside0 (impl_IsField.f fP fL fR fB = some b0_))
    (HS3 : Aside0 (spec_IsField.f fP fL fR fB = some b0_))
    (HONE : Aside0 (e1 = 0 → impl_IsFairField.f k nP nL nR nB gm = some (true, 0) ∧ ∃ X, impl_FieldText.f k nP nL nR nB = some (X, 0) ∧ impl_ParseField.f k X = some (nP, nL, nR, nB, 0) ∧ laws_hasInt.f k S pt = some true))
    (HD2 : Aside0 (spec_DrawUnionOf.f k l = some (mP, mL, mR, mB, hP, hL, hR, hB)))
    (HI8 : Aside0 (impl_UnionOf.f k mP mL mR mB hP hL hR hB = some (uP, uL, uR, uB, e4)))
    (HS8 : Aside0 (spec_UnionOf.f k mP mL mR mB hP hL hR hB = some (uP, uL, uR, uB, e4)))
    (HUN : Aside0 (e4 = 0 → unionOk k mP mL mR mB hP hL hR hB uP uL uR uB))
    (HD3 : Aside0 (spec_DrawExchangeSides.f k l = some (xP, xL, xR, xB)))
    (HI9 : Aside0 (impl_ExchangeSides.f xP xL xR xB = some (tP, tL, tR, tB, e5)))
    (HS9 : Aside0 (spec_ExchangeSides.f xP xL xR xB = some (tP, tL, tR, tB, e5)))
    (HEX : Aside0 (e5 = 0 → impl_ExchangeSides.f tP tL tR tB = some (xP, xL, xR, xB, 0)))
    (HD4 : Aside0 (spec_DrawIsFairField.f k l = some (dP, dL, dR, dB, x4)))
    (HI10 : Aside0 (impl_IsFairField.f k dP dL dR dB x4 = some (f6, e6)))
    (HS10 : Aside0 (spec_IsFairField.f k dP dL dR dB x4 = some (f6, e6)))
    (HD5 : Aside0 (spec_DrawAreJoined.f k l = some (jP, jL, jR, jB, x5, y5)))
    (HI11 : Aside0 (impl_AreJoined.f k jP jL jR jB x5 y5 = some (f7, e7)))
    (HS11 : Aside0 (spec_AreJoined.f jP jL jR jB x5 y5 = some (f7, e7)))
    (HD6 : Aside0 (spec_DrawParseField.f k l = some T6))
    (HI12 : Aside0 (impl_ParseField.f k T6 = some (rP, rL, rR, rB, e8)))
    (HS12 : Aside0 (spec_ParseField.f k T6 = some (rP, rL, rR, rB, e8)))
    (HI13 : Aside0 (impl_FieldText.f k xP xL xR xB = some (T9, e9)))
    (HS13 : Aside0 (spec_FieldText.f k xP xL xR xB = some (T9, e9))) :
    Calls Tryz.prog 3 #[.slice A l.length c] w fun e w' => e = .returned (.bool true) ∧ Below w.heap.size w w' := by
  have HR := Aside0.mk hr
  have H0 : Aside0 (laws_big.f l = some false) := ⟨by unfold laws_big.f; rw [decide_eq_false h0]⟩
  have HB := Aside0.mk (Below.refl w.heap.size w)
  have hu := Tryz.underlying25
  clear hr h0
  go_enter Tryz.func3, Tryz.ntmps3
  go_upto_region 8 with (first
      | (go_at_call 4; refine (laws_big.calls A c l false _ HR.out hc H0.out).mono ?_; rintro e w2 ⟨rfl, hd⟩; replace HB := wstep HB hd.below; clear hd)
      | (go_at_call 5; refine (spec_DrawColourPoint.calls k A c l fP fL fR fB gm pl pt _ (Kd.C_below HR.out HB.out) hc HD1.out).mono ?_; rintro e w3 ⟨rfl, hb⟩; replace HB := wstep HB hb; clear hb)
      | ((with_reducible refine gate_dst (N := 3) rfl ?_); refine zX 3 #[.int .i64 0, .int .i64 0, .int .i64 0, .int .i64 0] 25 ?_; intro g3 hg w4 hx hb; have PB3 := Aside0.mk hb; have PG3 := Aside0.mk hg; have PX3 := Aside0.mk hx; obtain ⟨p3_0, p3_1, p3_2, p3_3⟩ := zc4 PX3; obtain ⟨q3_0, q3_1, q3_2, q3_3⟩ := zf4 PX3; clear hb hg hx)
      | (go_at_call 6; obtain ⟨w5, e_⟩ : ∃ z, z = (((w4.setCell ⟨g3, 0, none⟩ (.int .i64 fP)).setCell ⟨g3, 1, none⟩ (.int .i64 fL)).setCell ⟨g3, 2, none⟩ (.int .i64 fR)).setCell ⟨g3, 3, none⟩ (.int .i64 fB) := ⟨_, rfl⟩; rw [← e_]; have HS := settle PB3 PG3 e_; have F3 := filled PX3 e_; clear e_ PB3 PG3 PX3 p3_0 p3_1 p3_2 p3_3 q3_0 q3_1 q3_2 q3_3; replace HB := wstep HB HS.out; clear HS; refine (impl_ColourPoint.calls k fP fL fR fB gm pl pt nP nL nR nB e1 _ HI1.out).mono ?_; rintro e w6 ⟨rfl, hb⟩; replace HB := wstep HB hb; replace F3 := bstep F3 hb; clear hb)
      | ((with_reducible refine gate_dst (N := 7) rfl ?_); refine zX 7 #[.int .i64 0, .int .i64 0, .int .i64 0, .int .i64 0] 25 ?_; intro g7 hg w7 hx hb; have PB7 := Aside0.mk hb; have PG7 := Aside0.mk hg; have PX7 := Aside0.mk hx; have n7_3 : g7 ≠ g3 := zg hg (blk_lt F3.out); have n3_7 : g3 ≠ g7 := zl hg (blk_lt F3.out); have Q3 := bstep F3 hb; obtain ⟨p3_0, p3_1, p3_2, p3_3⟩ := zc4 Q3; obtain ⟨q3_0, q3_1, q3_2, q3_3⟩ := zf4 Q3; obtain ⟨p7_0, p7_1, p7_2, p7_3⟩ := zc4 PX7; obtain ⟨q7_0, q7_1, q7_2, q7_3⟩ := zf4 PX7; clear hb hg hx)
      | (go_at_call 7; obtain ⟨w8, e_⟩ : ∃ z, z = (((w7.setCell ⟨g7, 0, none⟩ (.int .i64 nP)).setCell ⟨g7, 1, none⟩ (.int .i64 nL)).setCell ⟨g7, 2, none⟩ (.int .i64 nR)).setCell ⟨g7, 3, none⟩ (.int .i64 nB) := ⟨_, rfl⟩; rw [← e_]; have HS := settle PB7 PG7 e_; have F7 := filled PX7 e_; clear e_ PB7 PG7 PX7 n7_3 n3_7 Q3 p3_0 p3_1 p3_2 p3_3 q3_0 q3_1 q3_2 q3_3 p7_0 p7_1 p7_2 p7_3 q7_0 q7_1 q7_2 q7_3; replace HB := wstep HB HS.out; replace F3 := bstep F3 HS.out; clear HS; refine (spec_ColourPoint.calls k fP fL fR fB gm pl pt nP nL nR nB e1 _ HS1.out).mono ?_; rintro e w9 ⟨rfl, hb⟩; replace HB := wstep HB hb; replace F3 := bstep F3 hb; replace F7 := bstep F7 hb; clear hb)
      | ((with_reducible refine gate_dst (N := 9) rfl ?_); refine zX 9 #[.int .i64 0, .int .i64 0, .int .i64 0, .int .i64 0] 25 ?_; intro g9 hg w10 hx hb; have PB9 := Aside0.mk hb; have PG9 := Aside0.mk hg; have PX9 := Aside0.mk hx; have n9_3 : g9 ≠ g3 := zg hg (blk_lt F3.out); have n3_9 : g3 ≠ g9 := zl hg (blk_lt F3.out); have Q3 := bstep F3 hb; obtain ⟨p3_0, p3_1, p3_2, p3_3⟩ := zc4 Q3; obtain ⟨q3_0, q3_1, q3_2, q3_3⟩ := zf4 Q3; obtain ⟨p9_0, p9_1, p9_2, p9_3⟩ := zc4 PX9; obtain ⟨q9_0, q9_1, q9_2, q9_3⟩ := zf4 PX9; clear hb hg hx)
      | (go_at_call 8; obtain ⟨w11, e_⟩ : ∃ z, z = (((w10.setCell ⟨g9, 0, none⟩ (.int .i64 nP)).setCell ⟨g9, 1, none⟩ (.int .i64 nL)).setCell ⟨g9, 2, none⟩ (.int .i64 nR)).setCell ⟨g9, 3, none⟩ (.int .i64 nB) := ⟨_, rfl⟩; rw [← e_]; have HS := settle PB9 PG9 e_; have F9 := filled PX9 e_; clear e_ PB9 PG9 PX9 n9_3 n3_9 Q3 p3_0 p3_1 p3_2 p3_3 q3_0 q3_1 q3_2 q3_3 p9_0 p9_1 p9_2 p9_3 q9_0 q9_1 q9_2 q9_3; replace HB := wstep HB HS.out; replace F3 := bstep F3 HS.out; replace F7 := bstep F7 HS.out; clear HS; refine (impl_PointsFor.calls k fP fL fR fB gm pl S e3 _ HI2.out).mono ?_; rintro e w12 ⟨v, rfl, ho, hb⟩; replace HB := wstep HB hb; replace F3 := bstep F3 hb; replace F7 := bstep F7 hb; replace F9 := bstep F9 hb; clear hb; obtain ⟨A1, c1, rfl, l1, hC⟩ := Kd.R_reads ho; have C1 := Aside0.mk hC; clear ho hC; obtain ⟨p3_0, p3_1, p3_2, p3_3⟩ := zc4 F3)
      | (go_at_call 9; clear p3_0 p3_1 p3_2 p3_3; refine (spec_PointsFor.calls k fP fL fR fB gm pl S e3 _ HS2.out).mono ?_; rintro e w13 ⟨v, rfl, ho, hb⟩; replace HB := wstep HB hb; replace F3 := bstep F3 hb; replace F7 := bstep F7 hb; replace F9 := bstep F9 hb; replace C1 := cstep C1 hb; clear hb; obtain ⟨A2, c2, rfl, l2, hC⟩ := Kd.R_reads ho; have C2 := Aside0.mk hC; clear ho hC))
  (try simp only [Act.put, List.setIfInBounds_toArray, List.set_cons_zero, List.set_cons_succ])
  replace HB := wdrew HB
  replace F3 := bdrew F3
  replace F7 := bdrew F7
  replace F9 := bdrew F9
  replace C1 := cdrew C1
  replace C2 := cdrew C2
  refine start_ (n := 26) (S := (fun w' => w'.cell? ⟨g7, 0, none⟩ = some (.int .i64 nP) ∧ w'.cell? ⟨g7, 1, none⟩ = some (.int .i64 nL) ∧ w'.cell? ⟨g7, 2, none⟩ = some (.int .i64 nR) ∧ w'.cell? ⟨g7, 3, none⟩ = some (.int .i64 nB) ∧ w'.cell? ⟨g9, 0, none⟩ = some (.int .i64 nP) ∧ w'.cell? ⟨g9, 1, none⟩ = some (.int .i64 nL) ∧ w'.cell? ⟨g9, 2, none⟩ = some (.int .i64 nR) ∧ w'.cell? ⟨g9, 3, none⟩ = some (.int .i64 nB) ∧ w'.cell? ⟨g3, 0, none⟩ = some (.int .i64 fP) ∧ w'.cell? ⟨g3, 1, none⟩ = some (.int .i64 fL) ∧ w'.cell? ⟨g3, 2, none⟩ = some (.int .i64 fR) ∧ w'.cell? ⟨g3, 3, none⟩ = some (.int .i64 fB))) (ds := []) #[false, false, false, false, false, false, false, false, false, false, false, false, false, false, false, false, false, false, false, false, false, false, false, false, false, false] (by kernel_rfl) rfl rfl ⟨(blk_cell F7.out 0).trans rfl, (blk_cell F7.out 1).trans rfl, (blk_cell F7.out 2).trans rfl, (blk_cell F7.out 3).trans rfl, (blk_cell F9.out 0).trans rfl, (blk_cell F9.out 1).trans rfl, (blk_cell F9.out 2).trans rfl, (blk_cell F9.out 3).trans rfl, (blk_cell F3.out 0).trans rfl, (blk_cell F3.out 1).trans rfl, (blk_cell F3.out 2).trans rfl, (blk_cell F3.out 3).trans rfl⟩ (fun hHeld => ?_); refine with_tabW fields8_tab fields8_bits (fun HT_ HW_ => ?_)
  generalize w13.drew = wS at HB F3 F7 F9 C1 C2 hHeld ⊢
  refine zP HT_ 0 (some 100) rfl rfl ?_
  refine zP HT_ 1 (some 101) rfl rfl ?_
  refine zP HT_ 2 (some 102) rfl rfl ?_
  refine zP HT_ 3 (some 103) rfl rfl ?_
  refine zT HT_ HW_ hHeld 4 (some 104) rfl rfl ?_
  refine zT HT_ HW_ hHeld 5 (some 105) rfl rfl ?_
  refine zP HT_ 6 (some 106) rfl rfl ?_
  refine zP HT_ 7 (some 107) rfl rfl ?_
  refine zP HT_ 8 (some 108) rfl rfl ?_
  refine zP HT_ 9 (some 109) rfl rfl ?_
  refine zP HT_ 10 (some 110) rfl rfl ?_
  refine zP HT_ 11 (some 111) rfl rfl ?_
  refine zP HT_ 12 (some 112) rfl rfl ?_
  refine zP HT_ 13 (some 113) rfl rfl ?_
  refine zP HT_ 14 (some 114) rfl rfl ?_
  refine zP HT_ 15 (some 115) rfl rfl ?_
  refine one_ (i := 16) (N := some 116) #[true, true, true, true, true, true, true, true, true, true, true, true, true, true, true, true, true, false, false, false, false, false, false, false, false, false] rfl rfl (one_of HT_.out (by kernel_rfl)) (by decide) (fun K hK => ?_)
  refine goes_ Tryz.func10 (by kernel_rfl) rfl #[.slice A1 S.length c1, .slice A2 S.length c2] (by rfl) rfl rfl zM ?_
  with_reducible refine (laws_likeInts.calls k A1 c1 S A2 c2 S true _ C1.out l1 C2.out l2 HL2.out).mono ?_
  rintro e wT ⟨rfl, hd⟩
  have hb := hd.below
  clear hd
  replace HB := wstep HB hb
  replace F3 := bstep F3 hb
  replace F7 := bstep F7 hb
  replace F9 := bstep F9 hb
  replace C1 := cstep C1 hb
  replace C2 := cstep C2 hb
  clear hb
  refine ⟨_, rfl, ?_⟩
  refine hK.out _ _ ⟨(blk_cell F7.out 0).trans rfl, (blk_cell F7.out 1).trans rfl, (blk_cell F7.out 2).trans rfl, (blk_cell F7.out 3).trans rfl, (blk_cell F9.out 0).trans rfl, (blk_cell F9.out 1).trans rfl, (blk_cell F9.out 2).trans rfl, (blk_cell F9.out 3).trans rfl, (blk_cell F3.out 0).trans rfl, (blk_cell F3.out 1).trans rfl, (blk_cell F3.out 2).trans rfl, (blk_cell F3.out 3).trans rfl⟩ (fun hHeld => ?_)
  clear hK K
  refine zW (some 116) ?_
  refine zP HT_ 17 (some 117) rfl rfl ?_
  refine zP HT_ 18 (some 118) rfl rfl ?_
  refine zP HT_ 19 (some 119) rfl rfl ?_
  refine zT HT_ HW_ hHeld 20 (some 120) rfl rfl ?_
  refine zT HT_ HW_ hHeld 22 (some 122) rfl rfl ?_
  refine one_ (i := 21) (N := some 121) #[true, true, true, true, true, true, true, true, true, true, true, true, true, true, true, true, true, true, true, true, true, true, true, false, false, false] rfl rfl (one_of HT_.out (by kernel_rfl)) (by decide) (fun K hK => ?_)
  refine goes_ Tryz.func11 (by kernel_rfl) rfl #[.agg #[.int .i64 fP, .int .i64 fL, .int .i64 fR, .int .i64 fB]] (by rfl) rfl rfl zM ?_
  with_reducible refine (impl_IsField.calls fP fL fR fB b0_ _ HI3.out).mono ?_
  rintro e wU ⟨rfl, hb⟩
  replace HB := wstep HB hb
  replace F3 := bstep F3 hb
  replace F7 := bstep F7 hb
  replace F9 := bstep F9 hb
  replace C1 := cstep C1 hb
  replace C2 := cstep C2 hb
  clear hb
  refine ⟨_, rfl, ?_⟩
  refine hK.out _ _ ⟨(blk_cell F7.out 0).trans rfl, (blk_cell F7.out 1).trans rfl, (blk_cell F7.out 2).trans rfl, (blk_cell F7.out 3).trans rfl, (blk_cell F9.out 0).trans rfl, (blk_cell F9.out 1).trans rfl, (blk_cell F9.out 2).trans rfl, (blk_cell F9.out 3).trans rfl, (blk_cell F3.out 0).trans rfl, (blk_cell F3.out 1).trans rfl, (blk_cell F3.out 2).trans rfl, (blk_cell F3.out 3).trans rfl⟩ (fun hHeld => ?_)
  clear hK K
  refine zW (some 121) ?_
  refine one_ (i := 23) (N := some 123) #[true, true, true, true, true, true, true, true, true, true, true, true, true, true, true, true, true, true, true, true, true, true, true, true, false, false] rfl rfl (one_of HT_.out (by kernel_rfl)) (by decide) (fun K hK => ?_)
  refine goes_ Tryz.func12 (by kernel_rfl) rfl #[.agg #[.int .i64 fP, .int .i64 fL, .int .i64 fR, .int .i64 fB]] (by rfl) rfl rfl zM ?_
  with_reducible refine (spec_IsField.calls fP fL fR fB b0_ _ HS3.out).mono ?_
  rintro e wV ⟨rfl, hb⟩
  replace HB := wstep HB hb
  replace F3 := bstep F3 hb
  replace F7 := bstep F7 hb
  replace F9 := bstep F9 hb
  replace C1 := cstep C1 hb
  replace C2 := cstep C2 hb
  clear hb
  refine ⟨_, rfl, ?_⟩
  refine hK.out _ _ ⟨(blk_cell F7.out 0).trans rfl, (blk_cell F7.out 1).trans rfl, (blk_cell F7.out 2).trans rfl, (blk_cell F7.out 3).trans rfl, (blk_cell F9.out 0).trans rfl, (blk_cell F9.out 1).trans rfl, (blk_cell F9.out 2).trans rfl, (blk_cell F9.out 3).trans rfl, (blk_cell F3.out 0).trans rfl, (blk_cell F3.out 1).trans rfl, (blk_cell F3.out 2).trans rfl, (blk_cell F3.out 3).trans rfl⟩ (fun hHeld => ?_)
  clear hK K
  refine zW (some 123) ?_
  refine zP HT_ 24 (some 124) rfl rfl ?_
  refine zP HT_ 25 (some 125) rfl rfl ?_
  refine done_ (done_of HT_.out (by kernel_rfl)) ?_
  go_upto_if 127 with (fail)
  go_cut [] (fun wc => Aside0 (Below w.heap.size w wc))
  case first => as_aux_lemma =>
    by_cases he : e1 = 0
    · subst he
      obtain ⟨hi4, X, hi5, hi6, hi7⟩ := HONE.out rfl
      have HI4 := Aside0.mk hi4
      have HI5 := Aside0.mk hi5
      have HI6 := Aside0.mk hi6
      have HI7 := Aside0.mk hi7
      clear hi4 hi5 hi6 hi7
      obtain ⟨p7_0, p7_1, p7_2, p7_3⟩ := zc4 F7
      go_wp2_with (first
          | (go_at_call 13; clear p7_0 p7_1 p7_2 p7_3; refine (impl_IsFairField.calls k nP nL nR nB gm true 0 _ HI4.out).mono ?_; rintro e w31 ⟨rfl, hb⟩; replace HB := wstep HB hb; replace F3 := bstep F3 hb; replace F7 := bstep F7 hb; replace F9 := bstep F9 hb; replace C1 := cstep C1 hb; clear hb; obtain ⟨p7_0, p7_1, p7_2, p7_3⟩ := zc4 F7)
          | (go_at_call 14; clear p7_0 p7_1 p7_2 p7_3; refine (impl_FieldText.calls k nP nL nR nB X 0 _ HI5.out).mono ?_; rintro e w32 ⟨rfl, hb⟩; replace HB := wstep HB hb; replace F3 := bstep F3 hb; replace F7 := bstep F7 hb; replace F9 := bstep F9 hb; replace C1 := cstep C1 hb; clear hb)
          | (go_at_call 15; refine (impl_ParseField.calls k X nP nL nR nB 0 _ HI6.out).mono ?_; rintro e w33 ⟨rfl, hb⟩; replace HB := wstep HB hb; replace F3 := bstep F3 hb; replace F7 := bstep F7 hb; replace F9 := bstep F9 hb; replace C1 := cstep C1 hb; clear hb)
          | ((with_reducible refine gate_dst (N := 19) rfl ?_); refine zX 19 #[.int .i64 0, .int .i64 0, .int .i64 0, .int .i64 0] 25 ?_; intro g19 hg w34 hx hb; have PB19 := Aside0.mk hb; have PG19 := Aside0.mk hg; have PX19 := Aside0.mk hx; have n19_7 : g19 ≠ g7 := zg hg (blk_lt F7.out); have n7_19 : g7 ≠ g19 := zl hg (blk_lt F7.out); have Q7 := bstep F7 hb; obtain ⟨p7_0, p7_1, p7_2, p7_3⟩ := zc4 Q7; obtain ⟨q7_0, q7_1, q7_2, q7_3⟩ := zf4 Q7; obtain ⟨p19_0, p19_1, p19_2, p19_3⟩ := zc4 PX19; obtain ⟨q19_0, q19_1, q19_2, q19_3⟩ := zf4 PX19; clear hb hg hx)
          | (go_at_call 16; obtain ⟨w35, e_⟩ : ∃ z, z = (((w34.setCell ⟨g19, 0, none⟩ (.int .i64 nP)).setCell ⟨g19, 1, none⟩ (.int .i64 nL)).setCell ⟨g19, 2, none⟩ (.int .i64 nR)).setCell ⟨g19, 3, none⟩ (.int .i64 nB) := ⟨_, rfl⟩; rw [← e_]; have HS := settle PB19 PG19 e_; have F19 := filled PX19 e_; clear e_ PB19 PG19 PX19 n19_7 n7_19 Q7 p7_0 p7_1 p7_2 p7_3 q7_0 q7_1 q7_2 q7_3 p19_0 p19_1 p19_2 p19_3 q19_0 q19_1 q19_2 q19_3; replace HB := wstep HB HS.out; replace F3 := bstep F3 HS.out; replace F7 := bstep F7 HS.out; replace F9 := bstep F9 HS.out; replace C1 := cstep C1 HS.out; clear HS; refine (laws_hasInt.calls k A1 c1 S pt true _ C1.out l1 HI7.out).mono ?_; rintro e w36 ⟨rfl, hd⟩; have hb := hd.below; clear hd; replace HB := wstep HB hb; replace F3 := bstep F3 hb; replace F7 := bstep F7 hb; replace F9 := bstep F9 hb; replace F19 := bstep F19 hb; replace C1 := cstep C1 hb; clear hb))
      go_meet
      case rel => exact HB
    · have heb : (e1 == 0) = false := by simp [he]
      clear he
      go_wp2
      go_meet
      case rel => exact HB
  case rest =>
    replace HB := hcut
    clear hcut F3 F7 F9 C1 C2 l1 l2 hHeld HT_ HW_
    go_upto_if 195 with (first
          | (go_at_call 17; refine (spec_DrawUnionOf.calls k A c l mP mL mR mB hP hL hR hB _ (Kd.C_below HR.out HB.out) hc HD2.out).mono ?_; rintro e w51 ⟨rfl, hb⟩; replace HB := wstep HB hb; clear hb)
          | ((with_reducible refine gate_dst (N := 21) rfl ?_); refine zX 21 #[.int .i64 0, .int .i64 0, .int .i64 0, .int .i64 0] 25 ?_; intro g21 hg w52 hx hb; have PB21 := Aside0.mk hb; have PG21 := Aside0.mk hg; have PX21 := Aside0.mk hx; clear hb hg hx)
          | ((with_reducible refine gate_dst (N := 22) rfl ?_); refine zX 22 #[.int .i64 0, .int .i64 0, .int .i64 0, .int .i64 0] 25 ?_; intro g22 hg w53 hx hb; have PB22 := Aside0.mk hb; have PG22 := Aside0.mk hg; have PX22 := Aside0.mk hx; have n22_21 : g22 ≠ g21 := zg hg (blk_lt PX21.out); have n21_22 : g21 ≠ g22 := zl hg (blk_lt PX21.out); replace PX21 := bstep PX21 hb; obtain ⟨p21_0, p21_1, p21_2, p21_3⟩ := zc4 PX21; obtain ⟨q21_0, q21_1, q21_2, q21_3⟩ := zf4 PX21; obtain ⟨p22_0, p22_1, p22_2, p22_3⟩ := zc4 PX22; obtain ⟨q22_0, q22_1, q22_2, q22_3⟩ := zf4 PX22; clear hb hg hx)
          | (go_at_call 18; obtain ⟨w54, e_⟩ : ∃ z, z = (((((((w53.setCell ⟨g21, 0, none⟩ (.int .i64 mP)).setCell ⟨g21, 1, none⟩ (.int .i64 mL)).setCell ⟨g21, 2, none⟩ (.int .i64 mR)).setCell ⟨g21, 3, none⟩ (.int .i64 mB)).setCell ⟨g22, 0, none⟩ (.int .i64 hP)).setCell ⟨g22, 1, none⟩ (.int .i64 hL)).setCell ⟨g22, 2, none⟩ (.int .i64 hR)).setCell ⟨g22, 3, none⟩ (.int .i64 hB) := ⟨_, rfl⟩; rw [← e_]; obtain ⟨HS, F21, F22⟩ := settle2 PB21 PG21 PX21 PB22 PG22 PX22 n21_22 e_; clear e_ PB21 PG21 PX21 PB22 PG22 PX22 n22_21 n21_22 p21_0 p21_1 p21_2 p21_3 p22_0 p22_1 p22_2 p22_3 q21_0 q21_1 q21_2 q21_3 q22_0 q22_1 q22_2 q22_3; replace HB := wstep HB HS.out; clear HS; refine (impl_UnionOf.calls k mP mL mR mB hP hL hR hB uP uL uR uB e4 _ HI8.out).mono ?_; rintro e w55 ⟨rfl, hb⟩; replace HB := wstep HB hb; replace F21 := bstep F21 hb; replace F22 := bstep F22 hb; clear hb)
          | ((with_reducible refine gate_dst (N := 23) rfl ?_); refine zX 23 #[.int .i64 0, .int .i64 0, .int .i64 0, .int .i64 0] 25 ?_; intro g23 hg w56 hx hb; have PB23 := Aside0.mk hb; have PG23 := Aside0.mk hg; have PX23 := Aside0.mk hx; have n23_21 : g23 ≠ g21 := zg hg (blk_lt F21.out); have n21_23 : g21 ≠ g23 := zl hg (blk_lt F21.out); have Q21 := bstep F21 hb; obtain ⟨p21_0, p21_1, p21_2, p21_3⟩ := zc4 Q21; obtain ⟨q21_0, q21_1, q21_2, q21_3⟩ := zf4 Q21; have n23_22 : g23 ≠ g22 := zg hg (blk_lt F22.out); have n22_23 : g22 ≠ g23 := zl hg (blk_lt F22.out); have Q22 := bstep F22 hb; obtain ⟨p22_0, p22_1, p22_2, p22_3⟩ := zc4 Q22; obtain ⟨q22_0, q22_1, q22_2, q22_3⟩ := zf4 Q22; obtain ⟨p23_0, p23_1, p23_2, p23_3⟩ := zc4 PX23; obtain ⟨q23_0, q23_1, q23_2, q23_3⟩ := zf4 PX23; clear hb hg hx)
          | (go_at_call 19; obtain ⟨w57, e_⟩ : ∃ z, z = (((w56.setCell ⟨g23, 0, none⟩ (.int .i64 uP)).setCell ⟨g23, 1, none⟩ (.int .i64 uL)).setCell ⟨g23, 2, none⟩ (.int .i64 uR)).setCell ⟨g23, 3, none⟩ (.int .i64 uB) := ⟨_, rfl⟩; rw [← e_]; have HS := settle PB23 PG23 e_; have F23 := filled PX23 e_; clear e_ PB23 PG23 PX23 n23_21 n21_23 Q21 p21_0 p21_1 p21_2 p21_3 q21_0 q21_1 q21_2 q21_3 n23_22 n22_23 Q22 p22_0 p22_1 p22_2 p22_3 q22_0 q22_1 q22_2 q22_3 p23_0 p23_1 p23_2 p23_3 q23_0 q23_1 q23_2 q23_3; replace HB := wstep HB HS.out; replace F21 := bstep F21 HS.out; replace F22 := bstep F22 HS.out; clear HS; refine (spec_UnionOf.calls k mP mL mR mB hP hL hR hB uP uL uR uB e4 _ HS8.out).mono ?_; rintro e w58 ⟨rfl, hb⟩; replace HB := wstep HB hb; replace F21 := bstep F21 hb; replace F22 := bstep F22 hb; replace F23 := bstep F23 hb; clear hb; obtain ⟨p23_0, p23_1, p23_2, p23_3⟩ := zc4 F23)
          | ((with_reducible refine gate_dst (N := 25) rfl ?_); refine zX 25 #[.int .i64 0, .int .i64 0, .int .i64 0, .int .i64 0] 25 ?_; intro g25 hg w59 hx hb; have PB25 := Aside0.mk hb; have PG25 := Aside0.mk hg; have PX25 := Aside0.mk hx; have n25_23 : g25 ≠ g23 := zg hg (blk_lt F23.out); have n23_25 : g23 ≠ g25 := zl hg (blk_lt F23.out); have Q23 := bstep F23 hb; obtain ⟨p23_0, p23_1, p23_2, p23_3⟩ := zc4 Q23; obtain ⟨q23_0, q23_1, q23_2, q23_3⟩ := zf4 Q23; obtain ⟨p25_0, p25_1, p25_2, p25_3⟩ := zc4 PX25; obtain ⟨q25_0, q25_1, q25_2, q25_3⟩ := zf4 PX25; clear hb hg hx))
    obtain ⟨w60, e_⟩ : ∃ z, z = (((w59.setCell ⟨g25, 0, none⟩ (.int .i64 uP)).setCell ⟨g25, 1, none⟩ (.int .i64 uL)).setCell ⟨g25, 2, none⟩ (.int .i64 uR)).setCell ⟨g25, 3, none⟩ (.int .i64 uB) := ⟨_, rfl⟩
    rw [← e_]
    have HS := settle PB25 PG25 e_
    have F25 := filled PX25 e_
    clear e_ PB25 PG25 PX25 n25_23 n23_25 Q23 p23_0 p23_1 p23_2 p23_3 q23_0 q23_1 q23_2 q23_3 p25_0 p25_1 p25_2 p25_3 q25_0 q25_1 q25_2 q25_3
    replace HB := wstep HB HS.out
    replace F21 := bstep F21 HS.out
    replace F22 := bstep F22 HS.out
    replace F23 := bstep F23 HS.out
    clear HS
    clear F25
    go_cut [] (fun wc => Aside0 (Below w.heap.size w wc))
    case first => as_aux_lemma =>
      by_cases he : e4 = 0
      · subst he
        obtain ⟨hu0, ha0, hall⟩ := HUN.out rfl
        have HA0 := Aside0.mk ha0
        have HALL := Aside0.mk hall
        have HU0 := Aside0.mk hu0
        clear hu0 ha0 hall
        go_wp2
        go_loopg [27] uP.toNat (fun gg v27 wr => ∃ x : Nat, x ≤ uP.toNat ∧ uP.toNat - x ≤ gg ∧ v27 = .int .i64 x ∧ Aside0 (Below w.heap.size w wr) ∧ Aside0 (wr.heap[g21]? = some (.cells #[.int .i64 mP, .int .i64 mL, .int .i64 mR, .int .i64 mB] 25 (0, 0))) ∧ Aside0 (wr.heap[g22]? = some (.cells #[.int .i64 hP, .int .i64 hL, .int .i64 hR, .int .i64 hB] 25 (0, 0))) ∧ Aside0 (wr.heap[g23]? = some (.cells #[.int .i64 uP, .int .i64 uL, .int .i64 uR, .int .i64 uB] 25 (0, 0))))
        case atStart => exact ⟨0, by omega, by omega, rfl, HB, F21, F22, F23⟩
        case round =>
          obtain ⟨x, hx, hgg, rfl, HB, F21, F22, F23⟩ := hrel
          obtain ⟨p21_0, p21_1, p21_2, p21_3⟩ := zc4 F21
          obtain ⟨p22_0, p22_1, p22_2, p22_3⟩ := zc4 F22
          obtain ⟨p23_0, p23_1, p23_2, p23_3⟩ := zc4 F23
          by_cases hlt : (x : Int) < uP
          · have hltb : decide ((x : Int) < uP) = true := decide_eq_true hlt
            go_wp2
            go_loopg [28] x (fun gg v28 wr => ∃ y : Nat, y ≤ x ∧ x - y ≤ gg ∧ v28 = .int .i64 y ∧ Aside0 (Below w.heap.size w wr) ∧ Aside0 (wr.heap[g21]? = some (.cells #[.int .i64 mP, .int .i64 mL, .int .i64 mR, .int .i64 mB] 25 (0, 0))) ∧ Aside0 (wr.heap[g22]? = some (.cells #[.int .i64 hP, .int .i64 hL, .int .i64 hR, .int .i64 hB] 25 (0, 0))) ∧ Aside0 (wr.heap[g23]? = some (.cells #[.int .i64 uP, .int .i64 uL, .int .i64 uR, .int .i64 uB] 25 (0, 0))))
            case atStart => exact ⟨0, Nat.zero_le _, by omega, rfl, HB, F21, F22, F23⟩
            case round =>
              clear p21_0 p21_1 p21_2 p21_3 p22_0 p22_1 p22_2 p22_3 p23_0 p23_1 p23_2 p23_3
              obtain ⟨y, hy, hgg2, rfl, HB, F21, F22, F23⟩ := hrel
              obtain ⟨p21_0, p21_1, p21_2, p21_3⟩ := zc4 F21
              obtain ⟨p22_0, p22_1, p22_2, p22_3⟩ := zc4 F22
              obtain ⟨p23_0, p23_1, p23_2, p23_3⟩ := zc4 F23
              by_cases hyt : y < x
              · have hyz : (y : Int) < (x : Int) := by omega
                have hyb : decide ((y : Int) < (x : Int)) = true := decide_eq_true hyz
                obtain ⟨bb, hj1, hj2, hj3, hj4⟩ := HALL.out x y hlt hyt
                have HJ1 := Aside0.mk hj1
                have HUU := HU0.out
                have hbb : (bb != bb) = false := by simp
                clear hj1
                by_cases hxa : (x : Int) < mP
                · obtain ⟨ee, hj⟩ := hj2 (by omega)
                  have HJ2 := Aside0.mk hj
                  have hxb : decide ((x : Int) < mP) = true := decide_eq_true hxa
                  clear hj hj2 hj3 hj4
                  go_wp2_with (first
                    | (go_at_call 20; with_reducible refine (impl_AreJoined.calls k uP uL uR uB x y bb 0 _ HJ1.out).mono ?_; rintro e wq ⟨rfl, hb⟩; replace HB := wstep HB hb; replace F21 := bstep F21 hb; replace F22 := bstep F22 hb; replace F23 := bstep F23 hb; clear hb p21_0 p21_1 p21_2 p21_3 p22_0 p22_1 p22_2 p22_3 p23_0 p23_1 p23_2 p23_3; obtain ⟨p21_0, p21_1, p21_2, p21_3⟩ := zc4 F21; obtain ⟨p22_0, p22_1, p22_2, p22_3⟩ := zc4 F22; obtain ⟨p23_0, p23_1, p23_2, p23_3⟩ := zc4 F23)
                    | (go_at_call 20; with_reducible refine (impl_AreJoined.calls k mP mL mR mB x y bb ee _ HJ2.out).mono ?_; rintro e wq ⟨rfl, hb⟩; replace HB := wstep HB hb; replace F21 := bstep F21 hb; replace F22 := bstep F22 hb; replace F23 := bstep F23 hb; clear hb))
                  go_roundg (x - (y + 1))
                  case measure => omega
                  case rel => exact ⟨y + 1, by omega, by omega, by first | rw [wrap_up2 y (by omega)] | rfl, HB, F21, F22, F23⟩
                · have hxb : decide ((x : Int) < mP) = false := decide_eq_false hxa
                  by_cases hya : (y : Int) ≥ mP
                  · obtain ⟨ee, hj⟩ := hj3 (by omega) (by omega)
                    have hyb2 : decide ((y : Int) ≥ mP) = true := decide_eq_true hya
                    have hA := HA0.out
                    have HJ3 := Aside0.mk hj
                    clear hj hj2 hj3 hj4
                    go_wp2_with (first
                      | (go_at_call 20; with_reducible refine (impl_AreJoined.calls k uP uL uR uB x y bb 0 _ HJ1.out).mono ?_; rintro e wq ⟨rfl, hb⟩; replace HB := wstep HB hb; replace F21 := bstep F21 hb; replace F22 := bstep F22 hb; replace F23 := bstep F23 hb; clear hb p21_0 p21_1 p21_2 p21_3 p22_0 p22_1 p22_2 p22_3 p23_0 p23_1 p23_2 p23_3; obtain ⟨p21_0, p21_1, p21_2, p21_3⟩ := zc4 F21; obtain ⟨p22_0, p22_1, p22_2, p22_3⟩ := zc4 F22; obtain ⟨p23_0, p23_1, p23_2, p23_3⟩ := zc4 F23)
                      | (go_at_call 20; with_reducible refine (impl_AreJoined.calls k hP hL hR hB _ _ bb ee _ HJ3.out).mono ?_; rintro e wq ⟨rfl, hb⟩; replace HB := wstep HB hb; replace F21 := bstep F21 hb; replace F22 := bstep F22 hb; replace F23 := bstep F23 hb; clear hb))
                    go_roundg (x - (y + 1))
                    case measure => omega
                    case rel => exact ⟨y + 1, by omega, by omega, by first | rw [wrap_up2 y (by omega)] | rfl, HB, F21, F22, F23⟩
                  · have hyb2 : decide ((y : Int) ≥ mP) = false := decide_eq_false hya
                    obtain rfl := hj4 (by omega) (by omega)
                    clear hj2 hj3 hj4
                    go_wp2_with ((go_at_call 20; with_reducible refine (impl_AreJoined.calls k uP uL uR uB x y false 0 _ HJ1.out).mono ?_; rintro e wq ⟨rfl, hb⟩; replace HB := wstep HB hb; replace F21 := bstep F21 hb; replace F22 := bstep F22 hb; replace F23 := bstep F23 hb; clear hb p21_0 p21_1 p21_2 p21_3 p22_0 p22_1 p22_2 p22_3 p23_0 p23_1 p23_2 p23_3; obtain ⟨p21_0, p21_1, p21_2, p21_3⟩ := zc4 F21; obtain ⟨p22_0, p22_1, p22_2, p22_3⟩ := zc4 F22; obtain ⟨p23_0, p23_1, p23_2, p23_3⟩ := zc4 F23))
                    go_roundg (x - (y + 1))
                    case measure => omega
                    case rel => exact ⟨y + 1, by omega, by omega, by first | rw [wrap_up2 y (by omega)] | rfl, HB, F21, F22, F23⟩
              · have hyb : decide ((y : Int) < (x : Int)) = false := decide_eq_false (by omega)
                have HUU := HU0.out
                go_wp2
                go_roundg (uP.toNat - (x + 1))
                case measure => omega
                case rel => exact ⟨x + 1, by omega, by omega, by first | rw [wrap_up2 x (by omega)] | rfl, HB, F21, F22, F23⟩
          · have hltb : decide ((x : Int) < uP) = false := decide_eq_false hlt
            go_wp2
            go_meet
            case rel => exact HB
      · have heb : (e4 == 0) = false := by simp [he]
        clear he
        go_wp2
        go_meet
        case rel => exact HB
    case rest =>
      replace HB := hcut
      clear hcut F21 F22 F23 p23_0 p23_1 p23_2 p23_3
      go_upto_if 270 with (first
              | (go_at_call 21; refine (spec_DrawExchangeSides.calls k A c l xP xL xR xB _ (Kd.C_below HR.out HB.out) hc HD3.out).mono ?_; rintro e w81 ⟨rfl, hb⟩; replace HB := wstep HB hb; clear hb)
              | ((with_reducible refine gate_dst (N := 32) rfl ?_); refine zX 32 #[.int .i64 0, .int .i64 0, .int .i64 0, .int .i64 0] 25 ?_; intro g32 hg w82 hx hb; have PB32 := Aside0.mk hb; have PG32 := Aside0.mk hg; have PX32 := Aside0.mk hx; obtain ⟨p32_0, p32_1, p32_2, p32_3⟩ := zc4 PX32; obtain ⟨q32_0, q32_1, q32_2, q32_3⟩ := zf4 PX32; clear hb hg hx)
              | (go_at_call 22; obtain ⟨w83, e_⟩ : ∃ z, z = (((w82.setCell ⟨g32, 0, none⟩ (.int .i64 xP)).setCell ⟨g32, 1, none⟩ (.int .i64 xL)).setCell ⟨g32, 2, none⟩ (.int .i64 xR)).setCell ⟨g32, 3, none⟩ (.int .i64 xB) := ⟨_, rfl⟩; rw [← e_]; have HS := settle PB32 PG32 e_; have F32 := filled PX32 e_; clear e_ PB32 PG32 PX32 p32_0 p32_1 p32_2 p32_3 q32_0 q32_1 q32_2 q32_3; replace HB := wstep HB HS.out; clear HS; refine (impl_ExchangeSides.calls xP xL xR xB tP tL tR tB e5 _ HI9.out).mono ?_; rintro e w84 ⟨rfl, hb⟩; replace HB := wstep HB hb; replace F32 := bstep F32 hb; clear hb)
              | ((with_reducible refine gate_dst (N := 33) rfl ?_); refine zX 33 #[.int .i64 0, .int .i64 0, .int .i64 0, .int .i64 0] 25 ?_; intro g33 hg w85 hx hb; have PB33 := Aside0.mk hb; have PG33 := Aside0.mk hg; have PX33 := Aside0.mk hx; have n33_32 : g33 ≠ g32 := zg hg (blk_lt F32.out); have n32_33 : g32 ≠ g33 := zl hg (blk_lt F32.out); have Q32 := bstep F32 hb; obtain ⟨p32_0, p32_1, p32_2, p32_3⟩ := zc4 Q32; obtain ⟨q32_0, q32_1, q32_2, q32_3⟩ := zf4 Q32; obtain ⟨p33_0, p33_1, p33_2, p33_3⟩ := zc4 PX33; obtain ⟨q33_0, q33_1, q33_2, q33_3⟩ := zf4 PX33; clear hb hg hx)
              | (go_at_call 23; obtain ⟨w86, e_⟩ : ∃ z, z = (((w85.setCell ⟨g33, 0, none⟩ (.int .i64 tP)).setCell ⟨g33, 1, none⟩ (.int .i64 tL)).setCell ⟨g33, 2, none⟩ (.int .i64 tR)).setCell ⟨g33, 3, none⟩ (.int .i64 tB) := ⟨_, rfl⟩; rw [← e_]; have HS := settle PB33 PG33 e_; have F33 := filled PX33 e_; clear e_ PB33 PG33 PX33 n33_32 n32_33 Q32 p32_0 p32_1 p32_2 p32_3 q32_0 q32_1 q32_2 q32_3 p33_0 p33_1 p33_2 p33_3 q33_0 q33_1 q33_2 q33_3; replace HB := wstep HB HS.out; replace F32 := bstep F32 HS.out; clear HS; refine (spec_ExchangeSides.calls xP xL xR xB tP tL tR tB e5 _ HS9.out).mono ?_; rintro e w87 ⟨rfl, hb⟩; replace HB := wstep HB hb; replace F32 := bstep F32 hb; replace F33 := bstep F33 hb; clear hb)
              | ((with_reducible refine gate_dst (N := 35) rfl ?_); refine zX 35 #[.int .i64 0, .int .i64 0, .int .i64 0, .int .i64 0] 25 ?_; intro g35 hg w88 hx hb; have PB35 := Aside0.mk hb; have PG35 := Aside0.mk hg; have PX35 := Aside0.mk hx; have n35_33 : g35 ≠ g33 := zg hg (blk_lt F33.out); have n33_35 : g33 ≠ g35 := zl hg (blk_lt F33.out); have Q33 := bstep F33 hb; obtain ⟨p33_0, p33_1, p33_2, p33_3⟩ := zc4 Q33; obtain ⟨q33_0, q33_1, q33_2, q33_3⟩ := zf4 Q33; obtain ⟨p35_0, p35_1, p35_2, p35_3⟩ := zc4 PX35; obtain ⟨q35_0, q35_1, q35_2, q35_3⟩ := zf4 PX35; clear hb hg hx))
      obtain ⟨w89, e_⟩ : ∃ z, z = (((w88.setCell ⟨g35, 0, none⟩ (.int .i64 tP)).setCell ⟨g35, 1, none⟩ (.int .i64 tL)).setCell ⟨g35, 2, none⟩ (.int .i64 tR)).setCell ⟨g35, 3, none⟩ (.int .i64 tB) := ⟨_, rfl⟩
      rw [← e_]
      have HS := settle PB35 PG35 e_
      have F35 := filled PX35 e_
      clear e_ PB35 PG35 PX35 n35_33 n33_35 Q33 p33_0 p33_1 p33_2 p33_3 q33_0 q33_1 q33_2 q33_3 p35_0 p35_1 p35_2 p35_3 q35_0 q35_1 q35_2 q35_3
      replace HB := wstep HB HS.out
      replace F32 := bstep F32 HS.out
      replace F33 := bstep F33 HS.out
      clear HS
      clear F35
      go_cut [] (fun wc => Aside0 (Below w.heap.size w wc) ∧ Aside0 (wc.heap[g32]? = some (.cells #[.int .i64 xP, .int .i64 xL, .int .i64 xR, .int .i64 xB] 25 (0, 0))))
      case first => as_aux_lemma =>
        by_cases he : e5 = 0
        · subst he
          have HE5 := Aside0.mk (HEX.out rfl)
          obtain ⟨p33_0, p33_1, p33_2, p33_3⟩ := zc4 F33
          go_upto_if 282 with (first
                    | (go_at_call 22; clear p33_0 p33_1 p33_2 p33_3; refine (impl_ExchangeSides.calls tP tL tR tB xP xL xR xB 0 _ HE5.out).mono ?_; rintro e w101 ⟨rfl, hb⟩; replace HB := wstep HB hb; replace F32 := bstep F32 hb; replace F33 := bstep F33 hb; clear hb)
                    | ((with_reducible refine gate_dst (N := 37) rfl ?_); refine zX 37 #[.int .i64 0, .int .i64 0, .int .i64 0, .int .i64 0] 25 ?_; intro g37 hg w102 hx hb; have PB37 := Aside0.mk hb; have PG37 := Aside0.mk hg; have PX37 := Aside0.mk hx; have n37_32 : g37 ≠ g32 := zg hg (blk_lt F32.out); have n32_37 : g32 ≠ g37 := zl hg (blk_lt F32.out); have Q32 := bstep F32 hb; obtain ⟨p32_0, p32_1, p32_2, p32_3⟩ := zc4 Q32; obtain ⟨q32_0, q32_1, q32_2, q32_3⟩ := zf4 Q32; obtain ⟨p37_0, p37_1, p37_2, p37_3⟩ := zc4 PX37; obtain ⟨q37_0, q37_1, q37_2, q37_3⟩ := zf4 PX37; clear hb hg hx))
          obtain ⟨w103, e_⟩ : ∃ z, z = (((w102.setCell ⟨g37, 0, none⟩ (.int .i64 xP)).setCell ⟨g37, 1, none⟩ (.int .i64 xL)).setCell ⟨g37, 2, none⟩ (.int .i64 xR)).setCell ⟨g37, 3, none⟩ (.int .i64 xB) := ⟨_, rfl⟩
          rw [← e_]
          have HS := settle PB37 PG37 e_
          have F37 := filled PX37 e_
          clear e_ PB37 PG37 PX37 n37_32 n32_37 Q32 p32_0 p32_1 p32_2 p32_3 q32_0 q32_1 q32_2 q32_3 p37_0 p37_1 p37_2 p37_3 q37_0 q37_1 q37_2 q37_3
          replace HB := wstep HB HS.out
          replace F32 := bstep F32 HS.out
          replace F33 := bstep F33 HS.out
          clear HS
          go_wp2
          go_meet
          case rel => exact ⟨HB, F32⟩
        · have heb : (e5 == 0) = false := by simp [he]
          clear he
          go_wp2
          go_meet
          case rel => exact ⟨HB, F32⟩
      case rest => as_aux_lemma =>
        obtain ⟨HB, F32⟩ := hcut
        clear F33
        have hT9 : (T9.toList == T9.toList) = true := beq_self_eq_true _
        go_wp2_with (first
                  | (go_at_call 24; refine (spec_DrawIsFairField.calls k A c l dP dL dR dB x4 _ (Kd.C_below HR.out HB.out) hc HD4.out).mono ?_; rintro e w121 ⟨rfl, hb⟩; replace HB := wstep HB hb; replace F32 := bstep F32 hb; clear hb)
                  | ((with_reducible refine gate_dst (N := 39) rfl ?_); refine zX 39 #[.int .i64 0, .int .i64 0, .int .i64 0, .int .i64 0] 25 ?_; intro g39 hg w122 hx hb; have PB39 := Aside0.mk hb; have PG39 := Aside0.mk hg; have PX39 := Aside0.mk hx; obtain ⟨p39_0, p39_1, p39_2, p39_3⟩ := zc4 PX39; obtain ⟨q39_0, q39_1, q39_2, q39_3⟩ := zf4 PX39; clear hb hg hx)
                  | (go_at_call 13; obtain ⟨w123, e_⟩ : ∃ z, z = (((w122.setCell ⟨g39, 0, none⟩ (.int .i64 dP)).setCell ⟨g39, 1, none⟩ (.int .i64 dL)).setCell ⟨g39, 2, none⟩ (.int .i64 dR)).setCell ⟨g39, 3, none⟩ (.int .i64 dB) := ⟨_, rfl⟩; rw [← e_]; have HS := settle PB39 PG39 e_; have F39 := filled PX39 e_; clear e_ PB39 PG39 PX39 p39_0 p39_1 p39_2 p39_3 q39_0 q39_1 q39_2 q39_3; replace HB := wstep HB HS.out; replace F32 := bstep F32 HS.out; clear HS; refine (impl_IsFairField.calls k dP dL dR dB x4 f6 e6 _ HI10.out).mono ?_; rintro e w124 ⟨rfl, hb⟩; replace HB := wstep HB hb; replace F32 := bstep F32 hb; replace F39 := bstep F39 hb; clear hb; obtain ⟨p39_0, p39_1, p39_2, p39_3⟩ := zc4 F39)
                  | (go_at_call 25; clear p39_0 p39_1 p39_2 p39_3; refine (spec_IsFairField.calls k dP dL dR dB x4 f6 e6 _ HS10.out).mono ?_; rintro e w125 ⟨rfl, hb⟩; replace HB := wstep HB hb; replace F32 := bstep F32 hb; replace F39 := bstep F39 hb; clear hb)
                  | (go_at_call 26; refine (spec_DrawAreJoined.calls k A c l jP jL jR jB x5 y5 _ (Kd.C_below HR.out HB.out) hc HD5.out).mono ?_; rintro e w126 ⟨rfl, hb⟩; replace HB := wstep HB hb; replace F32 := bstep F32 hb; clear F39; clear hb)
                  | ((with_reducible refine gate_dst (N := 45) rfl ?_); refine zX 45 #[.int .i64 0, .int .i64 0, .int .i64 0, .int .i64 0] 25 ?_; intro g45 hg w127 hx hb; have PB45 := Aside0.mk hb; have PG45 := Aside0.mk hg; have PX45 := Aside0.mk hx; obtain ⟨p45_0, p45_1, p45_2, p45_3⟩ := zc4 PX45; obtain ⟨q45_0, q45_1, q45_2, q45_3⟩ := zf4 PX45; clear hb hg hx)
                  | (go_at_call 20; obtain ⟨w128, e_⟩ : ∃ z, z = (((w127.setCell ⟨g45, 0, none⟩ (.int .i64 jP)).setCell ⟨g45, 1, none⟩ (.int .i64 jL)).setCell ⟨g45, 2, none⟩ (.int .i64 jR)).setCell ⟨g45, 3, none⟩ (.int .i64 jB) := ⟨_, rfl⟩; rw [← e_]; have HS := settle PB45 PG45 e_; have F45 := filled PX45 e_; clear e_ PB45 PG45 PX45 p45_0 p45_1 p45_2 p45_3 q45_0 q45_1 q45_2 q45_3; replace HB := wstep HB HS.out; replace F32 := bstep F32 HS.out; clear HS; refine (impl_AreJoined.calls k jP jL jR jB x5 y5 f7 e7 _ HI11.out).mono ?_; rintro e w129 ⟨rfl, hb⟩; replace HB := wstep HB hb; replace F32 := bstep F32 hb; replace F45 := bstep F45 hb; clear hb; obtain ⟨p45_0, p45_1, p45_2, p45_3⟩ := zc4 F45)
                  | (go_at_call 27; clear p45_0 p45_1 p45_2 p45_3; refine (spec_AreJoined.calls jP jL jR jB x5 y5 f7 e7 _ HS11.out).mono ?_; rintro e w130 ⟨rfl, hb⟩; replace HB := wstep HB hb; replace F32 := bstep F32 hb; replace F45 := bstep F45 hb; clear hb)
                  | (go_at_call 28; refine (spec_DrawParseField.calls k A c l T6 _ (Kd.C_below HR.out HB.out) hc HD6.out).mono ?_; rintro e w131 ⟨rfl, hb⟩; replace HB := wstep HB hb; replace F32 := bstep F32 hb; clear F45; clear hb)
                  | (go_at_call 15; refine (impl_ParseField.calls k T6 rP rL rR rB e8 _ HI12.out).mono ?_; rintro e w132 ⟨rfl, hb⟩; replace HB := wstep HB hb; replace F32 := bstep F32 hb; clear hb)
                  | ((with_reducible refine gate_dst (N := 53) rfl ?_); refine zX 53 #[.int .i64 0, .int .i64 0, .int .i64 0, .int .i64 0] 25 ?_; intro g53 hg w133 hx hb; have PB53 := Aside0.mk hb; have PG53 := Aside0.mk hg; have PX53 := Aside0.mk hx; obtain ⟨p53_0, p53_1, p53_2, p53_3⟩ := zc4 PX53; obtain ⟨q53_0, q53_1, q53_2, q53_3⟩ := zf4 PX53; clear hb hg hx)
                  | (go_at_call 29; obtain ⟨w134, e_⟩ : ∃ z, z = (((w133.setCell ⟨g53, 0, none⟩ (.int .i64 rP)).setCell ⟨g53, 1, none⟩ (.int .i64 rL)).setCell ⟨g53, 2, none⟩ (.int .i64 rR)).setCell ⟨g53, 3, none⟩ (.int .i64 rB) := ⟨_, rfl⟩; rw [← e_]; have HS := settle PB53 PG53 e_; have F53 := filled PX53 e_; clear e_ PB53 PG53 PX53 p53_0 p53_1 p53_2 p53_3 q53_0 q53_1 q53_2 q53_3; replace HB := wstep HB HS.out; replace F32 := bstep F32 HS.out; clear HS; refine (spec_ParseField.calls k T6 rP rL rR rB e8 _ HS12.out).mono ?_; rintro e w135 ⟨rfl, hb⟩; replace HB := wstep HB hb; replace F32 := bstep F32 hb; replace F53 := bstep F53 hb; clear hb)
                  | ((with_reducible refine gate_dst (N := 55) rfl ?_); refine zX 55 #[.int .i64 0, .int .i64 0, .int .i64 0, .int .i64 0] 25 ?_; intro g55 hg w136 hx hb; have PB55 := Aside0.mk hb; have PG55 := Aside0.mk hg; have PX55 := Aside0.mk hx; have n55_32 : g55 ≠ g32 := zg hg (blk_lt F32.out); have n32_55 : g32 ≠ g55 := zl hg (blk_lt F32.out); have Q32 := bstep F32 hb; obtain ⟨p32_0, p32_1, p32_2, p32_3⟩ := zc4 Q32; obtain ⟨q32_0, q32_1, q32_2, q32_3⟩ := zf4 Q32; obtain ⟨p55_0, p55_1, p55_2, p55_3⟩ := zc4 PX55; obtain ⟨q55_0, q55_1, q55_2, q55_3⟩ := zf4 PX55; clear hb hg hx)
                  | (go_at_call 14; obtain ⟨w137, e_⟩ : ∃ z, z = (((w136.setCell ⟨g55, 0, none⟩ (.int .i64 rP)).setCell ⟨g55, 1, none⟩ (.int .i64 rL)).setCell ⟨g55, 2, none⟩ (.int .i64 rR)).setCell ⟨g55, 3, none⟩ (.int .i64 rB) := ⟨_, rfl⟩; rw [← e_]; have HS := settle PB55 PG55 e_; have F55 := filled PX55 e_; clear e_ PB55 PG55 PX55 n55_32 n32_55 Q32 p32_0 p32_1 p32_2 p32_3 q32_0 q32_1 q32_2 q32_3 p55_0 p55_1 p55_2 p55_3 q55_0 q55_1 q55_2 q55_3; replace HB := wstep HB HS.out; replace F32 := bstep F32 HS.out; replace F53 := bstep F53 HS.out; clear HS; refine (impl_FieldText.calls k xP xL xR xB T9 e9 _ HI13.out).mono ?_; rintro e w138 ⟨rfl, hb⟩; replace HB := wstep HB hb; replace F32 := bstep F32 hb; replace F53 := bstep F53 hb; replace F55 := bstep F55 hb; clear hb; obtain ⟨p32_0, p32_1, p32_2, p32_3⟩ := zc4 F32)
                  | (go_at_call 30; clear p32_0 p32_1 p32_2 p32_3; refine (spec_FieldText.calls k xP xL xR xB T9 e9 _ HS13.out).mono ?_; rintro e w139 ⟨rfl, hb⟩; replace HB := wstep HB hb; replace F32 := bstep F32 hb; replace F53 := bstep F53 hb; replace F55 := bstep F55 hb; clear hb; obtain ⟨p53_0, p53_1, p53_2, p53_3⟩ := zc4 F53; obtain ⟨p55_0, p55_1, p55_2, p55_3⟩ := zc4 F55))
        go_ret
        exact ⟨zE, HB.out⟩
end Go.Proofs.YtlmohkbimnhecaaGreatDoor.Q
