/-
  The law FnRaces itself, told as the printed functions are. Codes within memory's reach.
-/
import Derived.Test.YtbmkhdeeengbmaaSq
import Derived.Test.YtbmkhdeeengbmaaRaceDefs
import Derived.Test.YtbmkhdeeengbmaaQ3
import Derived.Test.YtbmkhdeeengbmaaQ4
import Derived.Test.YtbmkhdeeengbmaaQ6b
import Derived.Test.YtbmkhdeeengbmaaQ5
import Derived.Test.YtbmkhdeeengbmaaQ1
import Derived.Test.YtbmkhdeeengbmaaRacePlay
import Derived.Test.YtbmkhdeeengbmaaRaceNet
namespace Go.Proofs.Ytbmkhdeeengbmaa.Q
open Go.RowKit Go.Proofs.YtbmkhdeeengbmaaW.PrintWords Go.Proofs.YtbmkhdeeengbmaaW.PrintLast Go.Proofs.YtbmkhdeeengbmaaW.PrintMore

/-- A board in a variable, its lines, the code; all lies ahead of what is made. -/
structure RaS (A : Option Addr) (c : Nat) (l : List Int) (w0 : World) (gb : Nat) (n : Int) (A3 : Option Addr) (c3 : Nat) (L : List Int) (w : World) : Prop where
  code : Kd.C (Kd.int .u8) w A l.length l
  box : w.heap[gb]? = some (.cells #[.int .i64 n, .slice A3 L.length c3] 26 (0, 0))
  lines : Kd.C (Kd.int .i64) w A3 L.length L
  below : Below w0.heap.size w0 w
section
variable {A : Option Addr} {c : Nat} {l : List Int} {w0 w w' : World} {gb : Nat} {n : Int} {A3 : Option Addr} {c3 : Nat} {L : List Int}
theorem RaS.step (h : Aside0 (RaS A c l w0 gb n A3 c3 L w)) (hb : Below w.heap.size w w') : Aside0 (RaS A c l w0 gb n A3 c3 L w') := ⟨Kd.C_below h.out.code hb, blk_below h.out.box hb, Kd.C_below h.out.lines hb, below_then h.out.below h.out.below.size hb⟩
theorem RaS.cells (h : Aside0 (RaS A c l w0 gb n A3 c3 L w)) : w.cell? ⟨gb, 0, none⟩ = some (.int .i64 n) ∧ w.cell? ⟨gb, 1, none⟩ = some (.slice A3 L.length c3) := ⟨blk_cell h.out.box 0, blk_cell h.out.box 1⟩
theorem li_step {α : Type} {d : Kd α} {m : Nat} {xs : List α} (h : Aside0 (Kd.C d w A m xs)) (hb : Below w.heap.size w w') : Aside0 (Kd.C d w' A m xs) := ⟨Kd.C_below h.out hb⟩
/-- A board's variable is made and filled. -/
theorem RaS.start {w1 w2 w3 : World} (hc : Aside0 (Kd.C (Kd.int .u8) w1 A l.length l)) (hb : Aside0 (Below w0.heap.size w0 w1)) (hr : Aside0 (Kd.C (Kd.int .i64) w1 A3 L.length L)) (hg : Aside0 (gb = w1.heap.size)) (hb2 : Aside0 (Below w1.heap.size w1 w2)) (hx : Aside0 (w2.heap[gb]? = some (.cells #[.int .i64 0, .slice none 0 0] 26 (0, 0))))
    (e : w3 = (w2.setCell ⟨gb, 0, none⟩ (.int .i64 n)).setCell ⟨gb, 1, none⟩ (.slice A3 L.length c3)) : Aside0 (RaS A c l w0 gb n A3 c3 L w3) := by
  have h3 : Below w1.heap.size w1 w3 := by
    rw [e]
    exact (hb2.out.setCell (by rw [hg.out]; exact Nat.le_refl _) _).setCell (by rw [hg.out]; exact Nat.le_refl _) _
  refine ⟨Kd.C_below hc.out h3, ?_, Kd.C_below hr.out h3, below_then hb.out hb.out.size h3⟩
  rw [e]
  exact blk_put (cs := #[.int .i64 n, .slice none 0 0]) (blk_put (cs := #[.int .i64 0, .slice none 0 0]) hx.out 0 _ rfl) 1 _ rfl
end
def race33T : Bool × List (List Nat × List Nat) := (true, [([], []), ([0], [0]), ([], []), ([2], [2]), ([3], [3]), ([4], [4]), ([], []), ([], []), ([6, 7], [6, 7]), ([8], [8]), ([9], [9]), ([10], [10]), ([5, 11], [5, 11]), ([1, 0, 1, 2, 3, 4, 5, 6, 7, 8, 9, 10, 11, 12], [1]), ([13, 12, 0, 1, 2, 3, 4, 5, 6, 7, 8, 9, 10, 11, 12], [12, 13])])
def race33B : List Nat := [0, 1, 0, 4, 12, 28, 0, 0, 192, 448, 960, 1984, 4092, 8191, 16383]
theorem race33_tab : rtab .any (opsOf Try.f3 33) = race33T := by kernel_rfl
theorem race33_bits : waitsOk race33T.2 race33B = true := by kernel_rfl
theorem tm_two (i : Nat) : Int.tmod (i : Int) 2 = ((i % 2 : Nat) : Int) := rfl
theorem shl_up (x : Int) : shl .i64 1 x = wrap64 (2 ^ min x.toNat 64) := by
  unfold shl
  rw [← i64_w]
  simp [show IntKind.i64.bits = 64 from rfl]
theorem set_pair {w0 w : World} {gs : Nat} {t : TypeId} {x y : Value} (h : w.heap[gs]? = some (.cells #[x, y] t (0, 0))) (hb : Below w0.heap.size w0 w) (hg : w0.heap.size ≤ gs) (z : Value) : (w.setCell ⟨gs, 0, none⟩ z).heap[gs]? = some (.cells #[z, y] t (0, 0)) ∧ (w.setCell ⟨gs, 1, none⟩ z).heap[gs]? = some (.cells #[x, z] t (0, 0)) ∧ Below w0.heap.size w0 (w.setCell ⟨gs, 0, none⟩ z) ∧ Below w0.heap.size w0 (w.setCell ⟨gs, 1, none⟩ z) :=
  ⟨blk_put h 0 z rfl, blk_put h 1 z rfl, hb.setCell hg _, hb.setCell hg _⟩
theorem wrap_up (i : Nat) (h : i ≤ 1000) : wrap64 ((i : Int) + 1) = ((i + 1 : Nat) : Int) := by
  unfold wrap64
  omega
theorem u64_up (p : Int) (h0 : 0 ≤ p) (h1 : p ≤ 63) : IntKind.u64.wrap p = p := by
  have hd : ∀ m : Fin 64, IntKind.u64.wrap ((m.val : Nat) : Int) = ((m.val : Nat) : Int) := by decide +kernel
  have := hd ⟨p.toNat, by omega⟩
  rwa [show ((p.toNat : Nat) : Int) = p by omega] at this
set_option linter.unusedSimpArgs false
set_option maxRecDepth 100000
set_option maxHeartbeats 4000000 in
theorem races_big (A : Option Addr) (c : Nat) (l : List Int) (w : World) (hr : Kd.C (Kd.int .u8) w A l.length l) (hc : l.length ≤ c) (h0 : (l.length : Int) > 4096) :
    Calls Try.prog 3 #[.slice A l.length c] w fun e w' => e = .returned (.bool true) ∧ Below w.heap.size w w' := by
  have HR := Aside0.mk hr
  have h0b : laws_big.f l = some true := by unfold laws_big.f; rw [decide_eq_true h0]
  have H0 := Aside0.mk h0b
  clear hr h0 h0b
  go_enter Try.func3, Try.ntmps3
  go_wp2_with (go_at_call 4; refine (laws_big.calls A c l true _ HR.out hc H0.out).mono ?_; rintro e w2 ⟨rfl, hd2⟩; have HB2 := Aside0.mk hd2.below)
  go_ret
  exact ⟨rfl, HB2.out⟩
set_option maxHeartbeats 40000000 in
theorem races_good (k : Nat) (A : Option Addr) (c : Nat) (l : List Int) (n a s r1 e1 e3 e5 : Int) (L B : List Int) (st : Bool) (n2 e7 : Int) (L2 P : List Int) (n3 x3 y3 q1 q2 q3 : Int) (L3 : List Int) (w : World) (hr : Kd.C (Kd.int .u8) w A l.length l) (hc : l.length ≤ c) (h0 : ¬ (l.length : Int) > 4096)
    (hd1 : spec_DrawRaceResult.f k l = some (n, L, a, s)) (hi1 : impl_RaceResult.f k n L a s = some (r1, e1)) (hs1 : spec_RaceResult.f k n L a s = some (r1, e1)) (hi3 : impl_BestNodes.f k n L a s = some (B, e3)) (hs3 : spec_BestNodes.f k n L a s = some (B, e3))
    (hi5 : impl_IsState.f k n L a s = some (st, e5)) (hs5 : spec_IsState.f k n L a s = some (st, e5)) (hlB : laws_likeInts.f k B B = some true) (hone : oneOk n a s r1 e1 B st)
    (hd2 : spec_DrawPlayRace.f k l = some (n2, L2)) (hi7 : impl_PlayRace.f k n2 L2 = some (P, e7)) (hs7 : spec_PlayRace.f k n2 L2 = some (P, e7)) (hlP : laws_likeInts.f k P P = some true) (htwo : e7 = 0 → twoF k n2 L2 P = some ())
    (hd3 : spec_DrawFilledLine.f k l = some (n3, L3, x3, y3)) (hi9 : impl_FilledLine.f k n3 L3 x3 y3 = some (q1, q2, q3)) (hs9 : spec_FilledLine.f k n3 L3 x3 y3 = some (q1, q2, q3)) :
    Calls Try.prog 3 #[.slice A l.length c] w fun e w' => e = .returned (.bool true) ∧ Below w.heap.size w w' := by
  have HR := Aside0.mk hr
  have H0 : Aside0 (laws_big.f l = some false) := ⟨by unfold laws_big.f; rw [decide_eq_false h0]⟩
  have HD1 := Aside0.mk hd1
  have HI1 := Aside0.mk hi1
  have HS1 := Aside0.mk hs1
  have HI3 := Aside0.mk hi3
  have HS3 := Aside0.mk hs3
  have HI5 := Aside0.mk hi5
  have HS5 := Aside0.mk hs5
  have HLB := Aside0.mk hlB
  have HONE := Aside0.mk hone
  have HD2 := Aside0.mk hd2
  have HI7 := Aside0.mk hi7
  have HS7 := Aside0.mk hs7
  have HLP := Aside0.mk hlP
  have HTWO := Aside0.mk htwo
  have HD3 := Aside0.mk hd3
  have HI9 := Aside0.mk hi9
  have HS9 := Aside0.mk hs9
  have hu := Try.underlying26
  clear hr h0 hd1 hi1 hs1 hi3 hs3 hi5 hs5 hlB hone hd2 hi7 hs7 hlP htwo hd3 hi9 hs9
  go_enter Try.func3, Try.ntmps3
  go_upto_if 120 with (first
    | (go_at_call 4; refine (laws_big.calls A c l false _ HR.out hc H0.out).mono ?_; rintro e w1 ⟨rfl, hd⟩; have HB1 := Aside0.mk hd.below; clear hd)
    | (go_at_call 5; refine (spec_DrawRaceResult.calls k A c l n L a s _ (Kd.C_below HR.out HB1.out) hc HD1.out).mono ?_; rintro e w2 ⟨v2, rfl, ho2, hb2⟩; obtain ⟨A3, c3, rfl, hl3, hC3⟩ := Kd.R_reads ho2; have HB2 := Aside0.mk (below_then HB1.out HB1.out.size hb2); have HC2 := Aside0.mk hC3; have HCD := Aside0.mk (Kd.C_below HR.out HB2.out); clear ho2 hb2 hC3)
    | ((with_reducible refine gate_dst (N := 3) rfl ?_); refine zX 3 #[.int .i64 0, .slice none 0 0] 26 ?_; intro gb hgb w3 hbox hb3; have HBX := Aside0.mk hbox; have HGB := Aside0.mk hgb; have HB3 := Aside0.mk hb3; obtain ⟨hcz0, hcz1⟩ := zc2 HBX; obtain ⟨hfz0, hfz1⟩ := zf2 HBX; clear hbox hb3 hgb)
    | (go_at_call 6; obtain ⟨w4, e4⟩ : ∃ z, z = (w3.setCell ⟨gb, 0, none⟩ (.int .i64 n)).setCell ⟨gb, 1, none⟩ (.slice A3 L.length c3) := ⟨_, rfl⟩; rw [← e4]; have HT4 := RaS.start (c := c) HCD HB2 HC2 HGB HB3 HBX e4; clear e4 hcz0 hcz1 hfz0 hfz1 HBX HGB HB3 HC2 HCD HB2 HB1; refine (impl_RaceResult.calls k n A3 c3 L a s r1 e1 _ HT4.out.lines hl3 HI1.out).mono ?_; rintro e w5 ⟨rfl, hb5⟩; have HT5 := RaS.step HT4 hb5; clear hb5; obtain ⟨p50, p51⟩ := RaS.cells HT5)
    | (go_at_call 7; refine (spec_RaceResult.calls k n A3 c3 L a s r1 e1 _ HT5.out.lines hl3 HS1.out).mono ?_; rintro e w6 ⟨rfl, hb6⟩; have HT6 := RaS.step HT5 hb6; clear hb6; obtain ⟨p60, p61⟩ := RaS.cells HT6)
    | (go_at_call 8; refine (impl_BestNodes.calls k n A3 c3 L a s B e3 _ HT6.out.lines hl3 HI3.out).mono ?_; rintro e w7 ⟨v7, rfl, ho7, hb7⟩; have HT7 := RaS.step HT6 hb7; obtain ⟨A7, c7, rfl, hl7, hC7⟩ := Kd.R_reads ho7; have HC7 := Aside0.mk hC7; clear hb7 ho7 hC7; obtain ⟨p70, p71⟩ := RaS.cells HT7)
    | (go_at_call 9; refine (spec_BestNodes.calls k n A3 c3 L a s B e3 _ HT7.out.lines hl3 HS3.out).mono ?_; rintro e w8 ⟨v8, rfl, ho8, hb8⟩; have HT8 := RaS.step HT7 hb8; have HC8 := li_step HC7 hb8; obtain ⟨A8, c8, rfl, hl8, hC8⟩ := Kd.R_reads ho8; have HQ8 := Aside0.mk hC8; clear hb8 ho8 hC8; obtain ⟨p80, p81⟩ := RaS.cells HT8)
    | (go_at_call 10; refine (impl_IsState.calls k n A3 c3 L a s st e5 _ HT8.out.lines hl3 HI5.out).mono ?_; rintro e w9 ⟨rfl, hb9⟩; have HT9 := RaS.step HT8 hb9; have HC9 := li_step HC8 hb9; have HQ9 := li_step HQ8 hb9; clear hb9; obtain ⟨p90, p91⟩ := RaS.cells HT9)
    | (go_at_call 11; refine (spec_IsState.calls k n A3 c3 L a s st e5 _ HT9.out.lines hl3 HS5.out).mono ?_; rintro e w10 ⟨rfl, hb10⟩; have HT10 := RaS.step HT9 hb10; have HC10 := li_step HC9 hb10; have HQ10 := li_step HQ9 hb10; clear hb10)
    | (go_at_call 12; refine (laws_likeInts.calls k A7 c7 B A8 c8 B true _ HC10.out hl7 HQ10.out hl8 HLB.out).mono ?_; rintro e w11 ⟨rfl, hd11⟩; have HT11 := RaS.step HT10 hd11.below; have HC11 := li_step HC10 hd11.below; clear hd11))
  go_cut [] (fun wc => Aside0 (Below w.heap.size w wc))
  case first =>
    as_aux_lemma =>
      by_cases he : e1 = 0
      · have hone := HONE.out he
        subst he
        obtain ⟨⟨h1, h2, h3⟩, h4, h5⟩ := hone
        subst h1
        have hB1 : decide ((B.length : Int) < 1) = false := decide_eq_false (by omega)
        have H3 := Aside0.mk h3
        have H4 := Aside0.mk h4
        have H5 := Aside0.mk h5
        clear h2 h3 h4 h5
        go_upto_region 13 with fail
        go_cut [139] (fun v139 wx => v139 = .bool false ∧ Aside0 (RaS A c l w gb n A3 c3 L wx) ∧ Aside0 (Kd.C (Kd.int .i64) wx A7 B.length B))
        case first =>
          by_cases ha : a = 0
          · by_cases hs : s = 0
            · have hr1 : ¬ r1 < 0 := fun z => H4.out ⟨ha, hs, z⟩
              have hrb : decide (r1 < 0) = false := decide_eq_false hr1
              have hab : (a == 0) = true := by simp [ha]
              have hsb : (s == 0) = true := by simp [hs]
              clear ha hs hr1
              go_wp2
              go_meet
              case rel => exact ⟨rfl, HT11, HC11⟩
            · have hab : (a == 0) = true := by simp [ha]
              have hsb : (s == 0) = false := by simp [hs]
              clear ha hs
              go_wp2
              go_meet
              case rel => exact ⟨rfl, HT11, HC11⟩
          · have hab : (a == 0) = false := by simp [ha]
            clear ha
            go_wp2
            go_meet
            case rel => exact ⟨rfl, HT11, HC11⟩
        case rest =>
          obtain ⟨rfl, HT12, HC12⟩ := hcut
          clear HT11 HC11 H4
          go_wp2
          go_loopg [142] B.length (fun gg v142 wr => ∃ i : Nat, i ≤ B.length ∧ B.length - i ≤ gg ∧ v142 = .int .i64 i ∧ Aside0 (RaS A c l w gb n A3 c3 L wr) ∧ Aside0 (Kd.C (Kd.int .i64) wr A7 B.length B))
          case atStart => exact ⟨0, Nat.zero_le _, by omega, rfl, HT12, HC12⟩
          case round =>
            obtain ⟨i, hi, hgg, rfl, HT, HC⟩ := hrel
            clear HT12 HC12
            by_cases hlt : i < B.length
            · have hltz : (i : Int) < (B.length : Int) := by omega
              obtain ⟨ad, e, hx⟩ := Kd.at_int HC.out (i : Int) (by omega) hltz
              subst e
              obtain ⟨x, hxd⟩ : ∃ x, x = rd B (i : Int) := ⟨_, rfl⟩
              rw [← hxd, Int.toNat_natCast] at hx
              have hxm : x ∈ B := by rw [hxd]; unfold rd; rw [Int.toNat_natCast, List.getD_eq_getElem?_getD, List.getElem?_eq_getElem hlt]; exact List.getElem_mem _
              obtain ⟨⟨x0, x1, x2⟩, x3⟩ := H5.out x hxm
              have hx0 : decide (x < 0) = false := decide_eq_false (by omega)
              have hxn : decide (x ≥ n) = false := decide_eq_false (by omega)
              have hxu := u64_up x x0 x2
              have hxb : (Go.bits .and .i64 (Go.bits .or .i64 a s / 2 ^ min x.toNat 64) 1 == 1) = false := beq_eq_false_iff_ne.mpr x3
              obtain ⟨pb0, pb1⟩ := RaS.cells HT
              have H33 : Aside0 (i + 1 ≤ 1000) := ⟨by have := H3.out; omega⟩
              clear hxd hxm x1 x2 x3
              go_wp2_with fail
              go_quiet (fail)
              have HTq := RaS.step HT (pw_below_drewN (Below.refl _ _) nq)
              have HCq := li_step HC (pw_below_drewN (Below.refl _ _) nq)
              go_wp2
              go_roundg (B.length - (i + 1))
              case measure => omega
              case rel => exact ⟨i + 1, by omega, by omega, by rw [wrap_up i (by have := H33.out; omega)], HTq, HCq⟩
            · have hni : ¬ (i : Int) < (B.length : Int) := by omega
              go_wp2
              go_meet
              case rel => exact ⟨HT.out.below⟩
      · have heb : (e1 == 0) = false := by simp [he]
        clear he
        go_wp2
        go_meet
        case rel => exact ⟨HT11.out.below⟩
  case rest =>
    have HB12 := hcut
    clear hcut HT11 HC11
    go_upto_if 195 with (first
      | (go_at_call 13; refine (spec_DrawPlayRace.calls k A c l n2 L2 _ (Kd.C_below HR.out HB12.out) hc HD2.out).mono ?_; rintro e w13 ⟨v13, rfl, ho13, hb13⟩; obtain ⟨A13, c13, rfl, hl13, hC13⟩ := Kd.R_reads ho13; have HB13 := Aside0.mk (below_then HB12.out HB12.out.size hb13); have HC13 := Aside0.mk hC13; have HCD13 := Aside0.mk (Kd.C_below HR.out HB13.out); clear ho13 hb13 hC13)
      | ((with_reducible refine gate_dst (N := 19) rfl ?_); refine zX 19 #[.int .i64 0, .slice none 0 0] 26 ?_; intro gc hgc w14 hbox hb14; have HBX := Aside0.mk hbox; have HGB := Aside0.mk hgc; have HB14 := Aside0.mk hb14; obtain ⟨hcz0, hcz1⟩ := zc2 HBX; obtain ⟨hfz0, hfz1⟩ := zf2 HBX; clear hbox hb14 hgc)
      | (go_at_call 14; obtain ⟨w15, e15⟩ : ∃ z, z = (w14.setCell ⟨gc, 0, none⟩ (.int .i64 n2)).setCell ⟨gc, 1, none⟩ (.slice A13 L2.length c13) := ⟨_, rfl⟩; rw [← e15]; have HT15 := RaS.start (c := c) HCD13 HB13 HC13 HGB HB14 HBX e15; clear e15 hcz0 hcz1 hfz0 hfz1 HBX HGB HB14 HC13 HCD13 HB13; refine (impl_PlayRace.calls k n2 A13 c13 L2 P e7 _ HT15.out.lines hl13 HI7.out).mono ?_; rintro e w16 ⟨v16, rfl, ho16, hb16⟩; have HT16 := RaS.step HT15 hb16; obtain ⟨A16, c16, rfl, hl16, hC16⟩ := Kd.R_reads ho16; have HC16 := Aside0.mk hC16; clear hb16 ho16 hC16; obtain ⟨p160, p161⟩ := RaS.cells HT16)
      | (go_at_call 15; refine (spec_PlayRace.calls k n2 A13 c13 L2 P e7 _ HT16.out.lines hl13 HS7.out).mono ?_; rintro e w17 ⟨v17, rfl, ho17, hb17⟩; have HT17 := RaS.step HT16 hb17; have HC17 := li_step HC16 hb17; obtain ⟨A17, c17, rfl, hl17, hC17⟩ := Kd.R_reads ho17; have HQ17 := Aside0.mk hC17; clear hb17 ho17 hC17)
      | (go_at_call 12; refine (laws_likeInts.calls k A16 c16 P A17 c17 P true _ HC17.out hl16 HQ17.out hl17 HLP.out).mono ?_; rintro e w18 ⟨rfl, hd18⟩; have HT18 := RaS.step HT17 hd18.below; have HC18 := li_step HC17 hd18.below; clear hd18))
    go_cut [] (fun wc => Aside0 (Below w.heap.size w wc))
    case first =>
      as_aux_lemma =>
        by_cases he : e7 = 0
        · have h2 := HTWO.out he
          subst he
          unfold twoF at h2
          split at h2
          rotate_left
          · cases h2
          rename_i hPl
          obtain ⟨⟨sa, sb⟩, hset, h2⟩ := Option.bind_eq_some_iff.1 h2
          obtain ⟨⟨q9, q10, e9⟩, hfl, h2⟩ := Option.bind_eq_some_iff.1 h2
          obtain ⟨⟨st0, e10⟩, hrr, h2⟩ := Option.bind_eq_some_iff.1 h2
          split at h2
          rotate_left
          · cases h2
          rename_i hend
          have HSET := Aside0.mk hset
          have HFL := Aside0.mk hfl
          have HRR := Aside0.mk hrr
          have HEND := Aside0.mk hend
          have HPL := Aside0.mk hPl
          clear hset hfl hrr hend h2 hPl HTWO
          iterate 4 (try clear h2)
          go_wp2_with fail
          obtain ⟨gs, egs⟩ : ∃ z, z = w18.heap.size := ⟨_, rfl⟩
          have HNEW : Aside0 ((w18.alloc (.cells #[.int .i64 0, .int .i64 0] 39)).heap[gs]? = some (.cells #[.int .i64 0, .int .i64 0] 39 (0, 0)) ∧ Below w18.heap.size w18 (w18.alloc (.cells #[.int .i64 0, .int .i64 0] 39))) := ⟨by rw [egs]; exact ⟨heap_alloc_new w18 _, (Below.refl _ _).alloc (Nat.le_refl _) _⟩⟩
          rw [← egs]
          have HGS : Aside0 (w18.heap.size ≤ gs) := ⟨by rw [egs]; exact Nat.le_refl _⟩
          have hua := Try.underlying39
          clear egs
          go_loopg [199] P.length (fun gg v199 wr => ∃ (i : Nat) (sa0 sb0 : Int), i ≤ P.length ∧ P.length - i ≤ gg ∧ v199 = .int .i64 i ∧ Aside0 (Below w18.heap.size w18 wr) ∧ Aside0 (wr.heap[gs]? = some (.cells #[.int .i64 sa0, .int .i64 sb0] 39 (0, 0))) ∧ Aside0 (setsF n2 (P.drop i) (decide (i % 2 = 0)) sa0 sb0 = some (sa, sb)))
          case atStart => exact ⟨0, 0, 0, Nat.zero_le _, by omega, rfl, ⟨HNEW.out.2⟩, ⟨HNEW.out.1⟩, ⟨by simpa using HSET.out⟩⟩
          case round =>
            obtain ⟨i, sa0, sb0, hi, hgg, rfl, HD, HG, HS⟩ := hrel
            clear HNEW HSET
            have HTr := RaS.step HT18 HD.out
            obtain ⟨pg0, pg1⟩ := RaS.cells HTr
            have hg0 : wr.cell? ⟨gs, 0, none⟩ = some (.int .i64 sa0) := blk_cell HG.out 0
            have hg1 : wr.cell? ⟨gs, 1, none⟩ = some (.int .i64 sb0) := blk_cell HG.out 1
            by_cases hlt : i < P.length
            · have hltz : (i : Int) < (P.length : Int) := by omega
              obtain ⟨ad, e, hx⟩ := Kd.at_int (Kd.C_below HC18.out HD.out) (i : Int) (by omega) hltz
              subst e
              obtain ⟨p, hpd⟩ : ∃ p, p = rd P (i : Int) := ⟨_, rfl⟩
              rw [← hpd, Int.toNat_natCast] at hx
              have hpe : P[i] = p := by rw [hpd]; unfold rd; rw [Int.toNat_natCast, List.getD_eq_getElem?_getD, List.getElem?_eq_getElem hlt]; rfl
              have hS := HS.out
              rw [List.drop_eq_getElem_cons hlt, hpe, setsF_cons] at hS
              split at hS
              rotate_left
              · cases hS
              rename_i hfree
              obtain ⟨⟨x0, x1, x2⟩, x3⟩ := hfree
              have hx0 : decide (p < 0) = false := decide_eq_false (by omega)
              have hxn : decide (p ≥ n2) = false := decide_eq_false (by omega)
              have hxu := u64_up p x0 x2
              have hxb : (Go.bits .and .i64 (Go.bits .or .i64 sa0 sb0 / 2 ^ min p.toNat 64) 1 == 1) = false := beq_eq_false_iff_ne.mpr x3
              have HS2 := Aside0.mk hS
              have HLP1 : Aside0 (i + 1 ≤ 1000) := ⟨by have := HPL.out; omega⟩
              clear hpd hpe hS HS x1 x2 x3
              go_wp2_with fail
              go_quiet (fail)
              obtain ⟨w31, e31⟩ : ∃ z, z = wr.drewN nq := ⟨_, rfl⟩
              rw [← e31]
              have HDS : Aside0 (Below w18.heap.size w18 w31.drew) := ⟨by rw [e31]; exact below_drew (pw_below_drewN HD.out _)⟩
              have HGS2 : Aside0 (w31.drew.heap[gs]? = some (.cells #[.int .i64 sa0, .int .i64 sb0] 39 (0, 0))) := ⟨by rw [e31]; exact HG.out⟩
              have HSS : Aside0 (w31.drew.cell? ⟨gs, 0, none⟩ = some (.int .i64 sa0) ∧ w31.drew.cell? ⟨gs, 1, none⟩ = some (.int .i64 sb0) ∧ w31.drew.cell? (ad.add i) = some (.int .i64 p)) := ⟨by rw [e31]; exact ⟨hg0, hg1, hx⟩⟩
              clear e31 hx hg0 hg1 HG HD hx0 hxn hxb
              by_cases hpar : i % 2 = 0
              · have hS := HS2.out
                rw [if_pos (decide_eq_true hpar), shl_up] at hS
                have hmod : Int.tmod (i : Int) 2 = 0 := by rw [tm_two, hpar]; rfl
                have HS3 : Aside0 (setsF n2 (P.drop (i + 1)) (decide ((i + 1) % 2 = 0)) (Go.bits .or .i64 sa0 (wrap64 (2 ^ min p.toNat 64))) sb0 = some (sa, sb)) := ⟨by rw [decide_eq_false (show ¬ (i + 1) % 2 = 0 by omega)]; exact hS⟩
                clear hS HS2 hpar
                go_wp2_with fail
                refine start_ (n := 15) (S := (fun w' => w'.cell? ⟨gs, 0, none⟩ = some (.int .i64 sa0) ∧ w'.cell? ⟨gs, 1, none⟩ = some (.int .i64 sb0) ∧ w'.cell? (ad.add i) = some (.int .i64 p))) (ds := [14]) #[false, false, false, false, false, false, false, false, false, false, false, false, false, false, false] (by kernel_rfl) rfl rfl (HSS.out) (fun hHeld => ?_); refine with_tabW race33_tab race33_bits (fun HT_ HW_ => ?_)
                generalize w31.drew = wS at HDS HGS2 hHeld ⊢
                have hfr0 := blk_frozen HGS2.out 0
                have hfr1 := blk_frozen HGS2.out 1
                clear HSS
                refine zP HT_ 0 (some 231) rfl rfl ?_
                refine zP HT_ 1 (some 232) rfl rfl ?_
                refine zP HT_ 2 (some 233) rfl rfl ?_
                refine zP HT_ 3 (some 234) rfl rfl ?_
                refine zP HT_ 4 (some 235) rfl rfl ?_
                refine zT HT_ HW_ hHeld 5 (some 236) rfl rfl ?_
                refine zP HT_ 6 (some 237) rfl rfl ?_
                refine zP HT_ 7 (some 238) rfl rfl ?_
                refine zP HT_ 8 (some 239) rfl rfl ?_
                refine zT HT_ HW_ hHeld 9 (some 240) rfl rfl ?_
                refine zP HT_ 10 (some 241) rfl rfl ?_
                refine zP HT_ 11 (some 242) rfl rfl ?_
                refine zP HT_ 12 (some 243) rfl rfl ?_
                refine zP HT_ 13 (some 244) rfl rfl ?_
                refine last_ (i := 14) (N := none) #[true, true, true, true, true, true, true, true, true, true, true, true, true, true, true] rfl rfl (one_of HT_.out (by kernel_rfl)) (by decide) (fun K hK => ?_)
                refine skip_ (w1 := ?_) (by rfl) rfl ?_ ?_
                rotate_left
                · go_simp
                  rfl
                refine hK.out _ _ ?_
                clear hK K
                refine done_ (done_of HT_.out (by kernel_rfl)) ?_

                obtain ⟨s1, _, s3, _⟩ := set_pair HGS2.out HDS.out HGS.out (.int .i64 (Go.bits .or .i64 sa0 (wrap64 (2 ^ min p.toNat 64))))
                have H41 := Aside0.mk s1
                have H43 := Aside0.mk s3
                clear s1 s3 hmod hfr0 hfr1
                go_wp2
                go_roundg (P.length - (i + 1))
                case measure => omega
                case rel => exact ⟨i + 1, _, _, by omega, by omega, by rw [wrap_up i (by have := HLP1.out; omega)], H43, H41, HS3⟩
              · have hS := HS2.out
                rw [if_neg (by simpa using hpar), shl_up] at hS
                have hmod : Int.tmod (i : Int) 2 = 1 := by rw [tm_two, show i % 2 = 1 by omega]; rfl
                have HS3 : Aside0 (setsF n2 (P.drop (i + 1)) (decide ((i + 1) % 2 = 0)) sa0 (Go.bits .or .i64 sb0 (wrap64 (2 ^ min p.toNat 64))) = some (sa, sb)) := ⟨by rw [decide_eq_true (show (i + 1) % 2 = 0 by omega)]; exact hS⟩
                clear hS HS2 hpar
                go_wp2_with fail
                refine start_ (n := 15) (S := (fun w' => w'.cell? ⟨gs, 0, none⟩ = some (.int .i64 sa0) ∧ w'.cell? ⟨gs, 1, none⟩ = some (.int .i64 sb0) ∧ w'.cell? (ad.add i) = some (.int .i64 p))) (ds := [14]) #[false, false, false, false, false, false, false, false, false, false, false, false, false, false, false] (by kernel_rfl) rfl rfl (HSS.out) (fun hHeld => ?_); refine with_tabW race33_tab race33_bits (fun HT_ HW_ => ?_)
                generalize w31.drew = wS at HDS HGS2 hHeld ⊢
                have hfr0 := blk_frozen HGS2.out 0
                have hfr1 := blk_frozen HGS2.out 1
                clear HSS
                refine zP HT_ 0 (some 231) rfl rfl ?_
                refine zP HT_ 1 (some 232) rfl rfl ?_
                refine zP HT_ 2 (some 233) rfl rfl ?_
                refine zP HT_ 3 (some 234) rfl rfl ?_
                refine zP HT_ 4 (some 235) rfl rfl ?_
                refine zT HT_ HW_ hHeld 5 (some 236) rfl rfl ?_
                refine zP HT_ 6 (some 237) rfl rfl ?_
                refine zP HT_ 7 (some 238) rfl rfl ?_
                refine zP HT_ 8 (some 239) rfl rfl ?_
                refine zT HT_ HW_ hHeld 9 (some 240) rfl rfl ?_
                refine zP HT_ 10 (some 241) rfl rfl ?_
                refine zP HT_ 11 (some 242) rfl rfl ?_
                refine zP HT_ 12 (some 243) rfl rfl ?_
                refine zP HT_ 13 (some 244) rfl rfl ?_
                refine last_ (i := 14) (N := none) #[true, true, true, true, true, true, true, true, true, true, true, true, true, true, true] rfl rfl (one_of HT_.out (by kernel_rfl)) (by decide) (fun K hK => ?_)
                refine skip_ (w1 := ?_) (by rfl) rfl ?_ ?_
                rotate_left
                · go_simp
                  rfl
                refine hK.out _ _ ?_
                clear hK K
                refine done_ (done_of HT_.out (by kernel_rfl)) ?_

                obtain ⟨_, s1, _, s3⟩ := set_pair HGS2.out HDS.out HGS.out (.int .i64 (Go.bits .or .i64 sb0 (wrap64 (2 ^ min p.toNat 64))))
                have H41 := Aside0.mk s1
                have H43 := Aside0.mk s3
                clear s1 s3 hmod hfr0 hfr1
                go_wp2
                go_roundg (P.length - (i + 1))
                case measure => omega
                case rel => exact ⟨i + 1, _, _, by omega, by omega, by rw [wrap_up i (by have := HLP1.out; omega)], H43, H41, HS3⟩
            · have hz : P.drop i = [] := List.drop_eq_nil_of_le (by omega)
              have hS := HS.out
              rw [hz] at hS
              obtain ⟨g1, g2⟩ : sa0 = sa ∧ sb0 = sb := by simpa [setsF] using hS
              subst g1
              subst g2
              have hni : ¬ (i : Int) < (P.length : Int) := by omega
              obtain ⟨h1, h2, h3⟩ : e10 = 0 ∧ (e9 = 0 → q9 = 0 ∧ st0 = 1) ∧ (¬ e9 = 0 → st0 = 0 ∧ (P.length : Int) = n2) := HEND.out
              subst h1
              have H2 := Aside0.mk h2
              have H3 := Aside0.mk h3
              clear hS hz h2 h3 HS
              go_upto_region 37 with (first
                | (go_at_call 16; refine (impl_FilledLine.calls k n2 A13 c13 L2 sa0 sb0 q9 q10 e9 _ HTr.out.lines hl13 HFL.out).mono ?_; rintro e w41 ⟨rfl, hb41⟩; have HT41 := RaS.step HTr hb41; clear hb41; obtain ⟨p410, p411⟩ := RaS.cells HT41)
                | (go_at_call 6; refine (impl_RaceResult.calls k n2 A13 c13 L2 0 0 st0 0 _ HT41.out.lines hl13 HRR.out).mono ?_; rintro e w42 ⟨rfl, hb42⟩; have HT42 := RaS.step HT41 hb42; clear hb42; obtain ⟨p420, p421⟩ := RaS.cells HT42))
              by_cases he9 : e9 = 0
              · obtain ⟨h1, h2⟩ := H2.out he9
                subst he9 h1 h2
                go_wp2
                go_meet
                case rel => exact ⟨HT42.out.below⟩
              · obtain ⟨h1, h2⟩ := H3.out he9
                subst h1
                have h9b : (e9 == 0) = false := by simp [he9]
                have h9c : (e9 != 0) = true := by simp [he9]
                have hPn : ((P.length : Int) != n2) = false := by simp [h2]
                clear h2 he9
                go_wp2
                go_meet
                case rel => exact ⟨HT42.out.below⟩
        · have heb : (e7 == 0) = false := by simp [he]
          clear he
          go_wp2
          go_meet
          case rel => exact ⟨HT18.out.below⟩
    case rest =>
      have HB19 := hcut
      clear hcut HT18 HC18
      go_wp2_with (first
        | (go_at_call 17; refine (spec_DrawFilledLine.calls k A c l n3 L3 x3 y3 _ (Kd.C_below HR.out HB19.out) hc HD3.out).mono ?_; rintro e w20 ⟨v20, rfl, ho20, hb20⟩; obtain ⟨A20, c20, rfl, hl20, hC20⟩ := Kd.R_reads ho20; have HB20 := Aside0.mk (below_then HB19.out HB19.out.size hb20); have HC20 := Aside0.mk hC20; have HCD20 := Aside0.mk (Kd.C_below HR.out HB20.out); clear ho20 hb20 hC20)
        | ((with_reducible refine gate_dst (N := 31) rfl ?_); refine zX 31 #[.int .i64 0, .slice none 0 0] 26 ?_; intro gd hgd w21 hbox hb21; have HBX := Aside0.mk hbox; have HGB := Aside0.mk hgd; have HB21 := Aside0.mk hb21; obtain ⟨hcz0, hcz1⟩ := zc2 HBX; obtain ⟨hfz0, hfz1⟩ := zf2 HBX; clear hbox hb21 hgd)
        | (go_at_call 16; obtain ⟨w22, e22⟩ : ∃ z, z = (w21.setCell ⟨gd, 0, none⟩ (.int .i64 n3)).setCell ⟨gd, 1, none⟩ (.slice A20 L3.length c20) := ⟨_, rfl⟩; rw [← e22]; have HT22 := RaS.start (c := c) HCD20 HB20 HC20 HGB HB21 HBX e22; clear e22 hcz0 hcz1 hfz0 hfz1 HBX HGB HB21 HC20 HCD20 HB20; refine (impl_FilledLine.calls k n3 A20 c20 L3 x3 y3 q1 q2 q3 _ HT22.out.lines hl20 HI9.out).mono ?_; rintro e w23 ⟨rfl, hb23⟩; have HT23 := RaS.step HT22 hb23; clear hb23; obtain ⟨p230, p231⟩ := RaS.cells HT23)
        | (go_at_call 18; refine (spec_FilledLine.calls k n3 A20 c20 L3 x3 y3 q1 q2 q3 _ HT23.out.lines hl20 HS9.out).mono ?_; rintro e w24 ⟨rfl, hb24⟩; have HT24 := RaS.step HT23 hb24; clear hb24))
      go_ret
      exact ⟨rfl, HT24.out.below⟩
end Go.Proofs.Ytbmkhdeeengbmaa.Q
