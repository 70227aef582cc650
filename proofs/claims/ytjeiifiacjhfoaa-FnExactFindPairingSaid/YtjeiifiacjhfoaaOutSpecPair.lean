/-
  spec.l07Pairing, told by pairF too. Boards of fewer than 1,000 lines and pairs.
-/
import Derived.Test.YtjeiifiacjhfoaaOutPairLines
import Derived.Test.YtjeiifiacjhfoaaSq
import Derived.Test.YtjeiifiacjhfoaaQ1
namespace Go.Proofs.Ytjeiifiacjhfoaa.Q
open Go.RowKit Go.Proofs.YtjeiifiacjhfoaaW.PrintWords Go.Proofs.YtjeiifiacjhfoaaW.PrintLast Go.Proofs.YtjeiifiacjhfoaaW.PrintMore

def SpecPair (_k : Nat) (n : Int) (A : Option Addr) (c : Nat) (L : List Int) (at_ : Nat) : Prop := ∀ (ps : List (Int × Int)) (used : Int) (r : List (Int × Int)) (ok : Bool) (base : Nat) (bs : List Nat) (A2 : Option Addr) (c2 : Nat) (w : World),
  Kd.C (Kd.int .i64) w A L.length L → Prs base w (.slice A2 ps.length c2) bs ps → base ≤ w.heap.size → ps.length + (L.length - at_) < 1000 → pairF (L.drop at_) ps used = some (r, ok) →
  Calls Try.prog 70 #[.agg #[.int .i64 n, .slice A L.length c], .int .i64 at_, .slice A2 ps.length c2, .int .i64 used] w (PairPost base w r ok)
set_option linter.unusedSimpArgs false
set_option maxRecDepth 100000
set_option maxHeartbeats 4000000 in
theorem spec_pair_nil (k : Nat) (n : Int) (A : Option Addr) (c : Nat) (L : List Int) : SpecPair k n A c L L.length := by
  intro ps used r ok base bs A2 c2 w hl hp hb hlt h
  rw [List.drop_eq_nil_of_le (Nat.le_refl _)] at h
  obtain ⟨rfl, rfl⟩ : ps = r ∧ true = ok := by simpa [pairF] using h
  have hu := Try.underlying27
  have HB1 : Aside0 (Below w.heap.size w (w.alloc (.cells #[.int .i64 n, .slice A L.length c] 27))) := ⟨(Below.refl _ _).alloc (Nat.le_refl _) _⟩
  have hc1 : (w.alloc (.cells #[.int .i64 n, .slice A L.length c] 27)).cell? ⟨w.heap.size, 1, none⟩ = some (.slice A L.length c) := blk_cell (heap_alloc_new w _) 1
  have HP := Aside0.mk (hp.below HB1.out)
  clear hl hp h
  go_enter Try.func70, Try.ntmps70
  go_wp2
  go_ret2
  exact ⟨_, rfl, by rw [if_pos rfl]; exact ⟨_, _, _, rfl, HP.out⟩, HB1.out⟩
theorem any_drop (f : List Int → Option Bool) (l : List (List Int)) (i : Nat) (h : i < l.length) : anyF f (l.drop i) = (f l[i]).bind fun b => if b = true then some true else anyF f (l.drop (i + 1)) := by
  rw [List.drop_eq_getElem_cons h]
  rfl
theorem u64_small (p : Int) (h0 : 0 ≤ p) (h1 : p ≤ 63) : IntKind.u64.wrap p = p := by
  have hd : ∀ m : Fin 64, IntKind.u64.wrap ((m.val : Nat) : Int) = ((m.val : Nat) : Int) := by decide +kernel
  have := hd ⟨p.toNat, by omega⟩
  rwa [show ((p.toNat : Nat) : Int) = p by omega] at this
theorem one_own {base : Nat} {w : World} {b g : Nat} (hb : base ≤ b) (h : w.heap[b]? = some (.cells #[.slice (some ⟨g, 0, none⟩) 2 2] 22 (0, 0))) : Kd.R Kb 22 w base (fun _ => True) (.slice (some ⟨b, 0, none⟩) 1 1) [g] :=
  Kd.R_of_own ⟨rfl, .inr ⟨b, 1, _, rfl, hb, h, Nat.le_refl _, by decide, rfl, rfl⟩⟩ (fun _ _ => trivial)
theorem Prs.C {base : Nat} {w : World} {A : Option Addr} {n c : Nat} {bs : List Nat} {ps : List (Int × Int)} (h : Prs base w (.slice A n c) bs ps) : Kd.C Kb w A n bs := by
  obtain ⟨rfl, _, hC⟩ := Kd.R_reads' h.own
  exact hC
theorem len_step {ps : List (Int × Int)} (u : Int × Int) {m a : Nat} (h : ps.length + (m - a) < 1000) (h2 : a < m) : (ps ++ [u]).length + (m - (a + 1)) < 1000 := by
  rw [List.length_append, List.length_singleton]
  omega
theorem free_cell {W : World} {af : Addr} {free : List Int} (h : Kd.C (Kd.int .i64) W (some af) free.length free) (i : Nat) (hi : i < free.length) (x : Int) (hx : x = rd free (i : Int)) : W.cell? (af.add i) = some (.int .i64 x) := by
  obtain ⟨_, e, hc⟩ := Kd.at_int h (i : Int) (by omega) (by omega)
  obtain rfl := Option.some.inj e
  rw [hx]
  rwa [Int.toNat_natCast] at hc
/-- While the next list is made: p steps of the copy (2: whole), q steps of the new row (2: a list of it). -/
structure W18 (wS : World) (x y : Int) (p q : Nat) (v : Value) (g g2 : Nat) (bs : List Nat) (w : World) : Prop where
  below : Below wS.heap.size wS w
  a0 : p = 1 → Kd.R Kb 22 w wS.heap.size (fun k => q = 2 → k ≠ g2) v []
  a1 : p = 2 → Kd.R Kb 22 w wS.heap.size (fun _ => True) v bs
  b1 : 1 ≤ q → wS.heap.size ≤ g ∧ w.heap[g]? = some (.cells #[.int .i64 x, .int .i64 y] 2 (0, 0))
  b2 : q = 2 → wS.heap.size ≤ g2 ∧ w.heap[g2]? = some (.cells #[.slice (some ⟨g, 0, none⟩) 2 2] 22 (0, 0))
section
variable {wS w w' : World} {x y : Int} {p q : Nat} {v v1 : Value} {g g2 z : Nat} {bs : List Nat}
theorem W18.start : Aside0 (W18 w x y 0 0 undef 0 0 bs w) := ⟨Below.refl _ _, fun h => by omega, fun h => by omega, fun h => by omega, fun h => by omega⟩
theorem W18.f3 (h : Aside0 (W18 wS x y 0 q v g g2 bs w)) : q = 2 → w.heap.size ≠ g2 := fun hq => by
  have := blk_lt (h.out.b2 hq).2
  omega
theorem W18.f5 (h : Aside0 (W18 wS x y 1 q v g g2 bs w)) : ∀ k, w.heap.size ≤ k → q = 2 → k ≠ g2 := fun k hk hq => by
  have := blk_lt (h.out.b2 hq).2
  omega
theorem W18.s3 (h : Aside0 (W18 wS x y 0 q v g g2 bs w)) (hr : Kd.R Kb 22 w' wS.heap.size (fun k => q = 2 → k ≠ g2) v1 []) (hb : Below wS.heap.size wS w') (hg : w.grownBy w' none) : Aside0 (W18 wS x y 1 q v1 g g2 bs w') :=
  ⟨hb, fun _ => hr, fun e => by omega, fun hq => ⟨(h.out.b1 hq).1, blk_grown (h.out.b1 hq).2 hg (by simp)⟩, fun hq => ⟨(h.out.b2 hq).1, blk_grown (h.out.b2 hq).2 hg (by simp)⟩⟩
theorem W18.s5 (h : Aside0 (W18 wS x y 1 q v g g2 bs w)) (hr : Kd.R Kb 22 w' wS.heap.size (fun k => q = 2 → k ≠ g2) v1 (([] : List Nat) ++ bs)) (hb : Below wS.heap.size wS w') (hg : w.grownBy w' v.ownBlock) : Aside0 (W18 wS x y 2 q v1 g g2 bs w') :=
  ⟨hb, fun e => by omega, fun _ => Kd.R_mono hr (fun _ _ => trivial), fun hq => ⟨(h.out.b1 hq).1, blk_grown (h.out.b1 hq).2 hg (Kd.R_ne (h.out.a0 rfl) (h.out.b1 hq).2 (by decide))⟩, fun hq => ⟨(h.out.b2 hq).1, blk_grown (h.out.b2 hq).2 hg (fun e => (h.out.a0 rfl).1 g2 e.symm hq rfl)⟩⟩
theorem W18.s14 (h : Aside0 (W18 wS x y p 0 v g g2 bs w)) (e : w' = w.alloc (.cells #[.int .i64 x, .int .i64 y] 2)) (ez : z = w.heap.size) : Aside0 (W18 wS x y p 1 v z g2 bs w') := by
  subst e ez
  have hb : Below w.heap.size w (w.alloc (.cells #[.int .i64 x, .int .i64 y] 2)) := (Below.refl _ _).alloc (Nat.le_refl _) _
  exact ⟨below_then h.out.below h.out.below.size hb, fun e => Kd.R_mono (Kd.R_below (h.out.a0 e) hb) (fun _ _ e => by omega), fun e => Kd.R_below (h.out.a1 e) hb, fun _ => ⟨h.out.below.size, heap_alloc_new w _⟩, fun e => by omega⟩
theorem W18.s15 (h : Aside0 (W18 wS x y p 1 v g g2 bs w)) (e : w' = w.alloc (.cells #[.slice (some ⟨g, 0, none⟩) 2 2] 22)) (ez : z = w.heap.size) : Aside0 (W18 wS x y p 2 v g z bs w') := by
  subst e ez
  have hb : Below w.heap.size w (w.alloc (.cells #[.slice (some ⟨g, 0, none⟩) 2 2] 22)) := (Below.refl _ _).alloc (Nat.le_refl _) _
  exact ⟨below_then h.out.below h.out.below.size hb, fun e => Kd.R_mono (Kd.R_elderB (Kd.R_below (h.out.a0 e) (Below.refl _ _)) w.heap.size (Nat.le_refl _) |> fun q => Kd.R_below q hb) (fun _ hk _ => hk.2), fun e => Kd.R_below (h.out.a1 e) hb, fun _ => ⟨(h.out.b1 (by omega)).1, blk_below (h.out.b1 (by omega)).2 hb⟩, fun _ => ⟨h.out.below.size, heap_alloc_new w _⟩⟩
theorem W18.row (h : Aside0 (W18 wS x y 2 2 v g g2 bs w)) : Kd.C Kb w (some ⟨g2, 0, none⟩) 1 [g] := (Kd.R_reads' (one_own (h.out.b2 rfl).1 (h.out.b2 rfl).2)).2.2
theorem W18.more {base : Nat} {A : Option Addr} {n c : Nat} {ps : List (Int × Int)} (hp : Aside0 (Prs base wS (.slice A n c) bs ps)) (hbase : Aside0 (base ≤ wS.heap.size)) (h : Aside0 (W18 wS x y 2 2 v g g2 bs w)) (ho : Kd.R Kb 22 w' wS.heap.size (fun _ => True) v1 (bs ++ [g])) (hg : w.grownBy w' v.ownBlock) :
    Prs base w' v1 (bs ++ [g]) (ps ++ [(x, y)]) := by
  have h6 : Prs base w v bs ps := hp.out.clone hbase.out (h.out.a1 rfl) h.out.below
  have hlt : ∀ k ∈ bs, k < wS.heap.size := fun k hk => by
    obtain ⟨j, hj, rfl⟩ := List.getElem_of_mem hk
    exact blk_lt (hp.out.rows j hj (by have := hp.out.len; omega))
  obtain ⟨g1, g2'⟩ := h.out.b1 (by omega)
  refine h6.more (Kd.R_lower ho hbase.out) (fun hm => by have := hlt _ hm; omega) (Nat.le_trans hbase.out g1) (blk_grown g2' hg (Kd.R_ne (h.out.a1 rfl) g2' (by decide))) (fun k hk => ?_)
  obtain ⟨j, hj, rfl⟩ := List.getElem_of_mem hk
  have hrow := h6.rows j hj (by have := h6.len; omega)
  exact (blk_grown hrow hg (Kd.R_ne (h.out.a1 rfl) hrow (by decide))).trans hrow.symm
end
def spair18T : Bool × List (List Nat × List Nat) := (true, [([], []), ([], []), ([1], [1]), ([], []), ([], []), ([3, 4], [3, 4]), ([], []), ([], []), ([6, 7], [6, 7]), ([8], [8]), ([], []), ([], []), ([10, 11], [10, 11]), ([12], [12]), ([9, 13], [9, 13]), ([14], [14]), ([5, 15, 5], [5, 15]), ([], []), ([0, 2, 16, 17, 16], [0, 2, 16, 17]), ([18], [18]), ([19], [19]), ([19], [19]), ([20, 18, 0, 1, 2, 3, 4, 5, 6, 7, 8, 9, 10, 11, 12, 13, 14, 15, 16, 17, 18, 19, 20], [20]), ([21, 22, 0, 1, 2, 3, 4, 5, 6, 7, 8, 9, 10, 11, 12, 13, 14, 15, 16, 17, 18, 19, 20, 21, 22], [21])])
def spair18B : List Nat := [0, 0, 2, 0, 0, 24, 0, 0, 192, 448, 0, 0, 3072, 7168, 16320, 32704, 65528, 0, 262143, 524287, 1048575, 1048575, 2097151, 8388607]
theorem spair18_tab : rtab .any (opsOf Try.f70 18) = spair18T := by kernel_rfl
theorem spair18_bits : waitsOk spair18T.2 spair18B = true := by kernel_rfl
set_option maxHeartbeats 40000000 in
theorem spec_pair_cons (k : Nat) (n : Int) (A : Option Addr) (c : Nat) (L : List Int) (_hc : L.length ≤ c) (hL : L.length ≤ 1000) (HK : ∀ s l, impl_nodesOf.f s = some l → spec_l07Nodes.f k s = some l) (at_ : Nat) (hat : at_ < L.length) (ih : SpecPair k n A c L (at_ + 1)) : SpecPair k n A c L at_ := by
  intro ps used r ok base bs A2 c2 w hl hp hb hlt h
  have HIH := Aside0.mk ih
  have HLN := Aside0.mk hlt
  have HBS := Aside0.mk hb
  have HKK := Aside0.mk HK
  rw [List.drop_eq_getElem_cons hat] at h
  obtain ⟨line, hline⟩ : ∃ x, x = L[at_] := ⟨_, rfl⟩
  rw [← hline] at h
  obtain ⟨b, hany, h⟩ := Option.bind_eq_some_iff.1 (show (anyF (hasP line) (ps.map two)).bind _ = some (r, ok) from h)
  have hu := Try.underlying27
  have HB1 : Aside0 (Below w.heap.size w (w.alloc (.cells #[.int .i64 n, .slice A L.length c] 27))) := ⟨(Below.refl _ _).alloc (Nat.le_refl _) _⟩
  have hk1 : (w.alloc (.cells #[.int .i64 n, .slice A L.length c] 27)).heap[w.heap.size]? = some (.cells #[.int .i64 n, .slice A L.length c] 27 (0, 0)) := heap_alloc_new w _
  have HK1 := Aside0.mk hk1
  have HL := Aside0.mk hl
  have HP := Aside0.mk hp
  have HT := Aside0.mk h
  have HANY := Aside0.mk hany
  have hc1 : (w.alloc (.cells #[.int .i64 n, .slice A L.length c] 27)).cell? ⟨w.heap.size, 1, none⟩ = some (.slice A L.length c) := blk_cell hk1 1
  have hatz : (at_ : Int) < (L.length : Int) := by omega
  obtain ⟨ad, e, hx⟩ := Kd.at_int (Kd.C_below hl HB1.out) (at_ : Int) (by omega) hatz
  subst e
  have hle : rd L (at_ : Int) = line := by rw [hline]; unfold rd; rw [Int.toNat_natCast, List.getD_eq_getElem?_getD, List.getElem?_eq_getElem hat]; rfl
  rw [hle, Int.toNat_natCast] at hx
  have hne : ((at_ : Int) == (L.length : Int)) = false := beq_eq_false_iff_ne.mpr (by omega)
  clear hl hp h hany hle hk1 hline hb ih HK
  go_enter Try.func70, Try.ntmps70
  go_wp2
  have hpl : ps.length < 1000 := by have := HLN.out; omega
  have HPL := Aside0.mk hpl
  have HW1 : ∃ w1, Aside0 (w.alloc (.cells #[.int .i64 n, .slice (some ad) L.length c] 27) = w1) := ⟨_, ⟨rfl⟩⟩
  obtain ⟨w1, HW1⟩ := HW1
  rw [HW1.out] at HB1 HK1 hx hc1 ⊢
  clear hlt hpl
  go_loopg [11] ps.length (fun gg v11 wr => ∃ i : Nat, i ≤ ps.length ∧ ps.length - i ≤ gg ∧ v11 = .int .i64 i ∧ Aside0 (Below w1.heap.size w1 wr) ∧ Aside0 (anyF (hasP line) ((ps.map two).drop i) = some b))
  case atStart => exact ⟨0, Nat.zero_le _, by omega, rfl, ⟨Below.refl _ _⟩, ⟨by simpa using HANY.out⟩⟩
  case round =>
    obtain ⟨i, hi, hgg, rfl, HD, HI⟩ := hrel
    clear HANY
    by_cases hlti : i < ps.length
    · have hltz : (i : Int) < (ps.length : Int) := by omega
      have hI := HI.out
      rw [any_drop _ _ i (by rw [List.length_map]; exact hlti), List.getElem_map] at hI
      have hpw := HP.out.below (below_then HB1.out HB1.out.size HD.out)
      have hrd := hpw.reads
      obtain ⟨ad2, A0, c0, e2, hx2, hl2, hr2⟩ := at_row hrd.2.2 (i : Int) (by omega) hltz
      subst e2
      have hrw : rdRow (ps.map two) (i : Int) = two ps[i] := by simp [rdRow, hlti]
      rw [hrw] at hx2 hr2
      rw [Int.toNat_natCast] at hx2
      generalize ps[i] = pq at hI hx2 hr2
      obtain ⟨p, q⟩ := pq
      have hx3 : wr.cell? (ad2.add i) = some (.slice A0 2 c0) := hx2
      obtain ⟨b1, hb1, hI⟩ := Option.bind_eq_some_iff.1 hI
      have hb2 : (if (0 ≤ p ∧ p ≤ 63) ∧ 0 ≤ q ∧ q ≤ 63 then some (bitB line p && bitB line q) else none) = some b1 := hb1
      by_cases hpq : (0 ≤ p ∧ p ≤ 63) ∧ 0 ≤ q ∧ q ≤ 63
      rotate_left
      · rw [if_neg hpq] at hb2
        cases hb2
      rw [if_pos hpq] at hb2
      have hb3 := Option.some.inj hb2
      obtain ⟨ad3, e3, hy0⟩ := Kd.at_int hr2 0 (by omega) (by simp [two])
      obtain ⟨ad4, e4, hy1⟩ := Kd.at_int hr2 1 (by omega) (by simp [two])
      subst e3
      obtain rfl := Option.some.inj e4
      have hv0 : wr.cell? ad3 = some (.int .i64 p) := by simpa [Addr.add, rd, two] using hy0
      have hs := (spot_of hv0).1
      obtain ⟨bk, o, sp⟩ := ad3
      have hs2 : sp = none := hs
      subst hs2
      have hv1 : wr.cell? ⟨bk, o + 1, none⟩ = some (.int .i64 q) := by simpa [Addr.add, rd, two] using hy1
      have hup := u64_small p hpq.1.1 hpq.1.2
      have huq := u64_small q hpq.2.1 hpq.2.2
      have hp0 := hpq.1.1
      have hq0 := hpq.2.1
      have hlt2 : i + 1 ≤ 1000 := by have := HPL.out; omega
      have HLT := Aside0.mk hlt2
      clear hy0 hy1 hs hr2 hl2 hx2 hrd hpw hb1 hb2 e4 hpq hlt2 HI
      unfold bitB at hb3
      by_cases cp : (Go.bits .and .i64 (shr .i64 line p) 1 == 1) = true
      rotate_left
      · have cb : (Go.bits .and .i64 (shr .i64 line p) 1 == 1) = false := by simpa using cp
        rw [cb, Bool.false_and] at hb3
        subst hb3
        have HI2 : Aside0 (anyF (hasP line) ((ps.map two).drop (i + 1)) = some b) := ⟨by simpa using hI⟩
        have cb2 : (Go.bits .and .i64 (line / 2 ^ min p.toNat 64) 1 == 1) = false := cb
        clear cp hI cb
        go_wp2
        go_roundg (ps.length - (i + 1))
        case measure => omega
        case rel => exact ⟨i + 1, by omega, by omega, by rw [wrap_nat i (by have := HLT.out; omega)], HD, HI2⟩
      · rw [cp, Bool.true_and] at hb3
        have cp2 : (Go.bits .and .i64 (line / 2 ^ min p.toNat 64) 1 == 1) = true := cp
        by_cases cq : (Go.bits .and .i64 (shr .i64 line q) 1 == 1) = true
        rotate_left
        · have cb : (Go.bits .and .i64 (shr .i64 line q) 1 == 1) = false := by simpa using cq
          rw [cb] at hb3
          subst hb3
          have HI2 : Aside0 (anyF (hasP line) ((ps.map two).drop (i + 1)) = some b) := ⟨by simpa using hI⟩
          have cb2 : (Go.bits .and .i64 (line / 2 ^ min q.toNat 64) 1 == 1) = false := cb
          clear cp cq hI cb
          go_wp2
          go_roundg (ps.length - (i + 1))
          case measure => omega
          case rel => exact ⟨i + 1, by omega, by omega, by rw [wrap_nat i (by have := HLT.out; omega)], HD, HI2⟩
        · rw [cq] at hb3
          subst hb3
          obtain rfl : true = b := by simpa using hI
          have cq2 : (Go.bits .and .i64 (line / 2 ^ min q.toNat 64) 1 == 1) = true := cq
          have HB2 : Aside0 (Below w.heap.size w wr) := ⟨below_then HB1.out HB1.out.size HD.out⟩
          have hT : pairF (L.drop (at_ + 1)) ps used = some (r, ok) := by simpa using HT.out
          have HN : Aside0 (∀ W, Aside0 (Below w.heap.size w W) → Calls Try.prog 70 #[.agg #[.int .i64 n, .slice (some ad) L.length c], .int .i64 ((at_ : Int) + 1), .slice (some ad2) ps.length c2, .int .i64 used] W (PairPost base W r ok)) := ⟨fun W hW => by
            have e1 : ((at_ : Int) + 1) = ((at_ + 1 : Nat) : Int) := by omega
            rw [e1]
            exact HIH.out ps used r ok base bs (some ad2) c2 W (Kd.C_below HL.out hW.out) (HP.out.below hW.out) (Nat.le_trans HBS.out hW.out.size) (by have := HLN.out; omega) hT⟩
          have hbk := blk_below HK1.out HD.out
          have hd0 : wr.cell? ⟨w.heap.size, 0, none⟩ = some (.int .i64 n) := blk_cell hbk 0
          have hd1 : wr.cell? ⟨w.heap.size, 1, none⟩ = some (.slice (some ad) L.length c) := blk_cell hbk 1
          clear cp cq hI hT hbk
          go_wp2_with (go_at_call 70; refine (HN.out _ HB2).mono ?_; rintro e w3 ⟨v, rfl, hq, hb3⟩; have HB3 := Aside0.mk (below_then HB2.out HB2.out.size hb3); have HQ3 := Aside0.mk hq; clear hq hb3)
          go_ret2
          exact ⟨v, rfl, HQ3.out, HB3.out⟩
    · have hni : ¬ (i : Int) < (ps.length : Int) := by omega
      have hz : (ps.map two).drop i = [] := List.drop_eq_nil_of_le (by rw [List.length_map]; omega)
      have hI := HI.out
      rw [hz] at hI
      obtain rfl : false = b := by simpa [anyF] using hI
      have h2 := HT.out
      rw [if_neg (by decide)] at h2
      obtain ⟨free, hfree, h2⟩ := Option.bind_eq_some_iff.1 h2
      split at h2
      rotate_left
      · cases h2
      rename_i hfl
      have HFR := Aside0.mk (HKK.out _ _ hfree)
      have HFL := Aside0.mk hfl
      have HB2 : Aside0 (Below w.heap.size w wr) := ⟨below_then HB1.out HB1.out.size HD.out⟩
      have hbk := Aside0.mk (blk_below HK1.out HD.out)
      obtain ⟨G, hgd⟩ : ∃ g : Int → Int → Option PR, g = (fun x y => if (0 ≤ x ∧ x ≤ 63) ∧ 0 ≤ y ∧ y ≤ 63 then pairF (L.drop (at_ + 1)) (ps ++ [(x, y)]) (Go.bits .or .i64 (Go.bits .or .i64 used (shl .i64 1 x)) (shl .i64 1 y)) else none) := ⟨_, rfl⟩
      rw [← hgd] at h2
      have HGD := Aside0.mk hgd
      have HT2 := Aside0.mk h2
      clear h2 hgd hfree hfl hI hz HT HI HKK hx hc1
      go_wp2_with (go_at_call 92; refine (spec_l07Nodes.calls k _ free _ HFR.out).mono ?_; rintro e w3 ⟨vf, rfl, hof, hb3⟩; have HB3 := Aside0.mk (below_then HB2.out HB2.out.size hb3); have HK3 := Aside0.mk (blk_below hbk.out hb3); have HOF := Aside0.mk hof; clear hof hb3; obtain ⟨Af, cf, ef⟩ := Kd.R_slice HOF.out; subst ef)
      have HCF := Aside0.mk (Kd.R_reads' HOF.out).2.2
      have HLF := Aside0.mk (Kd.R_reads' HOF.out).2.1
      have HP3 := Aside0.mk (HP.out.below HB3.out)
      have HL3 := Aside0.mk (Kd.C_below HL.out HB3.out)
      have HBS3 : Aside0 (base ≤ w3.heap.size) := ⟨Nat.le_trans HBS.out HB3.out.size⟩
      clear HB2 hbk HFR HOF HP HBS HD HK1 HB1 HW1 hni
      go_loopg [15] free.length (fun gg v15 wr1 => ∃ ia : Nat, ia ≤ free.length ∧ free.length - ia ≤ gg ∧ v15 = .int .i64 ia ∧ Aside0 (Below w3.heap.size w3 wr1) ∧ Aside0 (tryA G (free.drop ia) = some (r, ok)))
      case atStart => exact ⟨0, Nat.zero_le _, by omega, rfl, ⟨Below.refl _ _⟩, ⟨by simpa using HT2.out⟩⟩
      case round =>
        obtain ⟨ia, hia, hgg1, rfl, HD1, HI1⟩ := hrel
        clear HT2
        by_cases hlta : ia < free.length
        · have hltza : (ia : Int) < (free.length : Int) := by omega
          obtain ⟨af, eaf, hxf⟩ := Kd.at_int (Kd.C_below HCF.out HD1.out) (ia : Int) (by omega) hltza
          subst eaf
          obtain ⟨x, hx⟩ : ∃ x, x = rd free (ia : Int) := ⟨_, rfl⟩
          have hxe : free[ia] = x := by rw [hx]; unfold rd; rw [Int.toNat_natCast, List.getD_eq_getElem?_getD, List.getElem?_eq_getElem hlta]; rfl
          have hI := HI1.out
          rw [List.drop_eq_getElem_cons hlta, hxe] at hI
          have HI2 : Aside0 ((tryB (G x) (free.drop (ia + 1))).bind (fun q => if q.2 = true then some (q.1, true) else tryA G (free.drop (ia + 1))) = some (r, ok)) := ⟨hI⟩
          have HX := Aside0.mk hx
          clear hI HI1 hxe hx hxf
          go_wp2
          go_loopg [16] free.length (fun g2 v16 wr2 => ∃ jb : Nat, jb ≤ free.length ∧ free.length - jb ≤ g2 ∧ v16 = .int .i64 jb ∧ Aside0 (Below w3.heap.size w3 wr2) ∧ Aside0 ((tryB (G x) (free.drop jb)).bind (fun q => if q.2 = true then some (q.1, true) else tryA G (free.drop (ia + 1))) = some (r, ok)))
          case atStart => exact ⟨ia + 1, by omega, by omega, by rw [wrap_nat ia (by have := HFL.out; omega)], HD1, HI2⟩
          case round =>
            obtain ⟨jb, hjb, hg2, rfl, HD2, HJ⟩ := hrel
            clear HI2
            by_cases hltb : jb < free.length
            · have hltzb : (jb : Int) < (free.length : Int) := by omega
              have HC2 := Aside0.mk (Kd.C_below HCF.out HD2.out)
              obtain ⟨_, ea, hxa⟩ := Kd.at_int HC2.out (ia : Int) (by omega) hltza
              obtain rfl := Option.some.inj ea
              obtain ⟨_, eb, hxb⟩ := Kd.at_int HC2.out (jb : Int) (by omega) hltzb
              obtain rfl := Option.some.inj eb
              obtain ⟨y, hy⟩ : ∃ y, y = rd free (jb : Int) := ⟨_, rfl⟩
              rw [← HX.out] at hxa
              rw [← hy] at hxb
              rw [Int.toNat_natCast] at hxa hxb
              have hye : free[jb] = y := by rw [hy]; unfold rd; rw [Int.toNat_natCast, List.getD_eq_getElem?_getD, List.getElem?_eq_getElem hltb]; rfl
              have hJ := HJ.out
              rw [List.drop_eq_getElem_cons hltb, hye] at hJ
              obtain ⟨q0, hq0, hJ⟩ := Option.bind_eq_some_iff.1 hJ
              obtain ⟨⟨qr, qok⟩, hq, hq0⟩ := Option.bind_eq_some_iff.1 (show ((G x y).bind fun r => if r.2 = true then some (r.1, true) else tryB (G x) (free.drop (jb + 1))) = some q0 from hq0)
              have hq1 : (if (0 ≤ x ∧ x ≤ 63) ∧ 0 ≤ y ∧ y ≤ 63 then pairF (L.drop (at_ + 1)) (ps ++ [(x, y)]) (Go.bits .or .i64 (Go.bits .or .i64 used (shl .i64 1 x)) (shl .i64 1 y)) else none) = some (qr, qok) := by
                have := HGD.out
                rw [this] at hq
                exact hq
              clear hq
              by_cases hxy : (0 ≤ x ∧ x ≤ 63) ∧ 0 ≤ y ∧ y ≤ 63
              rotate_left
              · rw [if_neg hxy] at hq1
                cases hq1
              rw [if_pos hxy] at hq1
              have HQq := Aside0.mk hq1
              have HQ0 := Aside0.mk hq0
              have HJ2 := Aside0.mk hJ
              have hx0 := hxy.1.1
              have hy0 := hxy.2.1
              have hux := u64_small x hxy.1.1 hxy.1.2
              have huy := u64_small y hxy.2.1 hxy.2.2
              obtain ⟨next, hnext⟩ : ∃ z, z = Go.bits .or .i64 (Go.bits .or .i64 used (wrap64 (2 ^ min x.toNat 64))) (wrap64 (2 ^ min y.toNat 64)) := ⟨_, rfl⟩
              have HNX := Aside0.mk hnext
              clear hnext
              have hk2 := blk_below HK3.out HD2.out
              have hd0 : wr.cell? ⟨w.heap.size, 0, none⟩ = some (.int .i64 n) := blk_cell hk2 0
              have hd1 : wr.cell? ⟨w.heap.size, 1, none⟩ = some (.slice (some ad) L.length c) := blk_cell hk2 1
              have HK2 := Aside0.mk hk2
              have HSS : Aside0 (∀ W, Below wr.heap.size wr W → (W.cell? ⟨w.heap.size, 0, none⟩ = some (.int .i64 n) ∧ W.cell? ⟨w.heap.size, 1, none⟩ = some (.slice (some ad) L.length c) ∧ W.cell? (af.add ia) = some (.int .i64 x) ∧ W.cell? (af.add jb) = some (.int .i64 y))) :=
                ⟨fun W hW => ⟨blk_cell (blk_below HK2.out hW) 0, blk_cell (blk_below HK2.out hW) 1, free_cell (Kd.C_below HC2.out hW) ia hlta x HX.out, free_cell (Kd.C_below HC2.out hW) jb hltb y hy⟩⟩
              have HN2 : Aside0 (∀ W A7 c7 bs7, Below wr.heap.size wr W → Prs base W (.slice A7 (ps ++ [(x, y)]).length c7) bs7 (ps ++ [(x, y)]) → Calls Try.prog 70 #[.agg #[.int .i64 n, .slice (some ad) L.length c], .int .i64 (wrap64 ((at_ : Int) + 1)), .slice A7 (ps ++ [(x, y)]).length c7, .int .i64 next] W (PairPost base W qr qok)) := ⟨fun W A7 c7 bs7 hW hp => by
                have e1 : wrap64 ((at_ : Int) + 1) = ((at_ + 1 : Nat) : Int) := wrap_nat at_ (by omega)
                have hd := below_then HD2.out HD2.out.size hW
                have hq := HQq.out
                rw [shl_form, shl_form, i64_w, i64_w, ← HNX.out] at hq
                rw [e1]
                exact HIH.out (ps ++ [(x, y)]) next qr qok base bs7 A7 c7 W (Kd.C_below HL3.out hd) hp (Nat.le_trans HBS3.out hd.size) (len_step (x, y) HLN.out hat) hq⟩
              clear hq1 hq0 hJ HJ hxy hye hy hk2
              go_wp2_with fail
              go_quiet (fail)
              rw [← HNX.out]
              clear HNX
              obtain ⟨w17, e17⟩ : ∃ z, z = wr.drewN nq := ⟨_, rfl⟩
              rw [← e17]
              have HBS0 : Aside0 (Below wr.heap.size wr w17.drew) := ⟨by rw [e17]; exact below_drew (pw_below_drewN (Below.refl _ _) _)⟩
              clear e17
              go_wp2_with fail
              refine start_ (n := 24) (S := (fun w' => w'.cell? ⟨w.heap.size, 0, none⟩ = some (.int .i64 n) ∧ w'.cell? ⟨w.heap.size, 1, none⟩ = some (.slice (some ad) L.length c) ∧ w'.cell? (af.add ia) = some (.int .i64 x) ∧ w'.cell? (af.add jb) = some (.int .i64 y))) (ds := []) #[false, false, false, false, false, false, false, false, false, false, false, false, false, false, false, false, false, false, false, false, false, false, false, false] (by kernel_rfl) rfl rfl (HSS.out _ HBS0.out) (fun hHeld => ?_); refine with_tabW spair18_tab spair18_bits (fun HT_ HW_ => ?_)
              generalize w17.drew = wS at HBS0 hHeld ⊢
              have HPr := Aside0.mk (HP3.out.below (below_then HD2.out HD2.out.size HBS0.out))
              have HSS2 : Aside0 (∀ W, Below wS.heap.size wS W → (W.cell? ⟨w.heap.size, 0, none⟩ = some (.int .i64 n) ∧ W.cell? ⟨w.heap.size, 1, none⟩ = some (.slice (some ad) L.length c) ∧ W.cell? (af.add ia) = some (.int .i64 x) ∧ W.cell? (af.add jb) = some (.int .i64 y))) := ⟨fun W hW => HSS.out W (below_then HBS0.out HBS0.out.size hW)⟩
              have HW0 : Aside0 (W18 wS x y 0 0 undef 0 0 bs wS) := W18.start
              have HBS3w : Aside0 (base ≤ wS.heap.size) := ⟨Nat.le_trans HBS3.out (Nat.le_trans HD2.out.size HBS0.out.size)⟩
              clear HSS
              refine zT HT_ HW_ hHeld 0 (some 106) rfl rfl ?_
              refine zP HT_ 1 (some 107) rfl rfl ?_
              refine zP HT_ 2 (some 108) rfl rfl ?_
              refine zP HT_ 4 (some 110) rfl rfl ?_
              refine zP HT_ 6 (some 112) rfl rfl ?_
              refine zP HT_ 7 (some 113) rfl rfl ?_
              refine zP HT_ 8 (some 114) rfl rfl ?_
              refine zT HT_ HW_ hHeld 9 (some 115) rfl rfl ?_
              refine zP HT_ 10 (some 116) rfl rfl ?_
              refine zP HT_ 11 (some 117) rfl rfl ?_
              refine zP HT_ 12 (some 118) rfl rfl ?_
              refine zT HT_ HW_ hHeld 13 (some 119) rfl rfl ?_
              refine zP HT_ 17 (some 123) rfl rfl ?_
              refine join_ (σ := Value × Value × Nat × Nat) (7) #[true, true, true, true, true, true, true, true, true, true, true, true, true, true, true, true, false, true, false, false, false, false, false, false] (fun s => [(109, s.1), (111, s.2.1), (120, .slice (some ⟨s.2.2.1, 0, none⟩) 2 2), (121, .slice (some ⟨s.2.2.2, 0, none⟩) 1 1)]) (fun s w' => W18 wS x y 2 2 s.2.1 s.2.2.1 s.2.2.2 bs w') ?hcont (fun hcont => ?h)
              case h =>
                refine two_ (i := 3) (j := 14) (Ni := some 109) (Nj := some 120) #[true, true, true, true, true, false, true, true, true, true, true, true, true, true, false, false, false, true, false, false, false, false, false, false] #[true, true, true, false, true, false, true, true, true, true, true, true, true, true, true, false, false, true, false, false, false, false, false, false] rfl rfl rfl rfl (two_of HT_.out (by kernel_rfl)) (by decide) (by decide) (fun K hK => ?_) (fun K hK => ?_)
                · refine Kd.R_lit_step Kb (w0 := wS) wS.heap.size 22 ?hg (N := 109) ?hd (xs := ([] : List Nat)) (inner := []) (ok := fun k => 0 = 2 → k ≠ 0) (okp := fun _ => False) ?hr (Reps.none _ _) (fun _ h => h.elim) (W18.f3 HW0) HW0.out.below HW0.out.below.size (by simp) ?_; (case hd => rfl); (case hg => rfl); (case hr => first | (go_simp; done) | (go_simp; rfl))
                  intro va21 w21 ho hb hg _
                  have HW21 := W18.s3 HW0 ho hb hg
                  clear ho hb hg
                  refine hK.out _ _ (HSS2.out _ HW21.out.below) (fun hHeld => ?_)
                  clear hK K
                  refine zW (some 109) ?_
                  refine two_ (i := 5) (j := 14) (Ni := some 111) (Nj := some 120) #[true, true, true, true, true, true, true, true, true, true, true, true, true, true, false, false, false, true, false, false, false, false, false, false] #[true, true, true, true, true, false, true, true, true, true, true, true, true, true, true, false, false, true, false, false, false, false, false, false] rfl rfl rfl rfl (two_of HT_.out (by kernel_rfl)) (by decide) (by decide) (fun K hK => ?_) (fun K hK => ?_)
                  · refine Kd.R_append_rows_step Kb (w0 := wS) wS.heap.size (by rfl) (.tmp 109) (.tmp 110) 44 22 (.slice none 0 0) 24 rfl Try.underlying44 infoR rfl (by decide) (by omega) va21 ([] : List Nat) bs _ _ _ (fun k => 0 = 2 → k ≠ 0) (fun _ => False) rfl rfl (HW21.out.a0 rfl) (Prs.C (HPr.out.below HW21.out.below)) (fun _ _ h => h) (fun _ h => h.elim) (W18.f5 HW21) HW21.out.below HW21.out.below.size (by have := HPL.out; simp; omega) ?_
                    intro vb22 w22 ho hb hg _
                    have HW22 := W18.s5 HW21 ho hb hg
                    clear ho hb hg
                    refine hK.out _ _ (HSS2.out _ HW22.out.below) (fun hHeld => ?_)
                    clear hK K
                    refine zW (some 111) ?_
                    refine one_ (i := 14) (N := some 120) #[true, true, true, true, true, true, true, true, true, true, true, true, true, true, true, false, false, true, false, false, false, false, false, false] rfl rfl (one_of HT_.out (by kernel_rfl)) (by decide) (fun K hK => ?_)
                    obtain ⟨w23, ew⟩ : ∃ z, z = w22.alloc (.cells #[.int .i64 x, .int .i64 y] 2) := ⟨_, rfl⟩
                    obtain ⟨g23, eg⟩ : ∃ z, z = w22.heap.size := ⟨_, rfl⟩
                    refine event_step (w1 := w23) (v := .slice (some ⟨g23, 0, none⟩) 2 2) (by rfl) (by rw [ew, eg]; first | (go_simp; done) | (go_simp; rfl)) ?_
                    have HW23 := W18.s14 HW22 ew eg
                    clear ew eg
                    refine hK.out _ _ (HSS2.out _ HW23.out.below) (fun hHeld => ?_)
                    clear hK K
                    refine zW (some 120) ?_
                    refine one_ (i := 15) (N := some 121) #[true, true, true, true, true, true, true, true, true, true, true, true, true, true, true, true, false, true, false, false, false, false, false, false] rfl rfl (one_of HT_.out (by kernel_rfl)) (by decide) (fun K hK => ?_)
                    obtain ⟨w24, ew⟩ : ∃ z, z = w23.alloc (.cells #[.slice (some ⟨g23, 0, none⟩) 2 2] 22) := ⟨_, rfl⟩
                    obtain ⟨g24, eg⟩ : ∃ z, z = w23.heap.size := ⟨_, rfl⟩
                    refine event_step (w1 := w24) (v := .slice (some ⟨g24, 0, none⟩) 1 1) (by rfl) (by rw [ew, eg]; first | (go_simp; done) | (go_simp; rfl)) ?_
                    have HW24 := W18.s15 HW23 ew eg
                    clear ew eg
                    refine hK.out _ _ (HSS2.out _ HW24.out.below) (fun hHeld => ?_)
                    clear hK K
                    refine zW (some 121) ?_
                    refine norm_ ?_ (hcont (va21, vb22, g23, g24) w24 HW24.out)
                    simp only [putAll, Act.put, List.setIfInBounds_toArray, List.set_cons_zero, List.set_cons_succ]
                  · obtain ⟨w25, ew⟩ : ∃ z, z = w21.alloc (.cells #[.int .i64 x, .int .i64 y] 2) := ⟨_, rfl⟩
                    obtain ⟨g25, eg⟩ : ∃ z, z = w21.heap.size := ⟨_, rfl⟩
                    refine event_step (w1 := w25) (v := .slice (some ⟨g25, 0, none⟩) 2 2) (by rfl) (by rw [ew, eg]; first | (go_simp; done) | (go_simp; rfl)) ?_
                    have HW25 := W18.s14 HW21 ew eg
                    clear ew eg
                    refine hK.out _ _ (HSS2.out _ HW25.out.below) (fun hHeld => ?_)
                    clear hK K
                    refine zW (some 120) ?_
                    refine two_ (i := 5) (j := 15) (Ni := some 111) (Nj := some 121) #[true, true, true, true, true, true, true, true, true, true, true, true, true, true, true, false, false, true, false, false, false, false, false, false] #[true, true, true, true, true, false, true, true, true, true, true, true, true, true, true, true, false, true, false, false, false, false, false, false] rfl rfl rfl rfl (two_of HT_.out (by kernel_rfl)) (by decide) (by decide) (fun K hK => ?_) (fun K hK => ?_)
                    · refine Kd.R_append_rows_step Kb (w0 := wS) wS.heap.size (by rfl) (.tmp 109) (.tmp 110) 44 22 (.slice none 0 0) 24 rfl Try.underlying44 infoR rfl (by decide) (by omega) va21 ([] : List Nat) bs _ _ _ (fun k => 1 = 2 → k ≠ 0) (fun _ => False) rfl rfl (HW25.out.a0 rfl) (Prs.C (HPr.out.below HW25.out.below)) (fun _ _ h => h) (fun _ h => h.elim) (W18.f5 HW25) HW25.out.below HW25.out.below.size (by have := HPL.out; simp; omega) ?_
                      intro vb26 w26 ho hb hg _
                      have HW26 := W18.s5 HW25 ho hb hg
                      clear ho hb hg
                      refine hK.out _ _ (HSS2.out _ HW26.out.below) (fun hHeld => ?_)
                      clear hK K
                      refine zW (some 111) ?_
                      refine one_ (i := 15) (N := some 121) #[true, true, true, true, true, true, true, true, true, true, true, true, true, true, true, true, false, true, false, false, false, false, false, false] rfl rfl (one_of HT_.out (by kernel_rfl)) (by decide) (fun K hK => ?_)
                      obtain ⟨w27, ew⟩ : ∃ z, z = w26.alloc (.cells #[.slice (some ⟨g25, 0, none⟩) 2 2] 22) := ⟨_, rfl⟩
                      obtain ⟨g27, eg⟩ : ∃ z, z = w26.heap.size := ⟨_, rfl⟩
                      refine event_step (w1 := w27) (v := .slice (some ⟨g27, 0, none⟩) 1 1) (by rfl) (by rw [ew, eg]; first | (go_simp; done) | (go_simp; rfl)) ?_
                      have HW27 := W18.s15 HW26 ew eg
                      clear ew eg
                      refine hK.out _ _ (HSS2.out _ HW27.out.below) (fun hHeld => ?_)
                      clear hK K
                      refine zW (some 121) ?_
                      refine norm_ ?_ (hcont (va21, vb26, g25, g27) w27 HW27.out)
                      simp only [putAll, Act.put, List.setIfInBounds_toArray, List.set_cons_zero, List.set_cons_succ]
                    · obtain ⟨w28, ew⟩ : ∃ z, z = w25.alloc (.cells #[.slice (some ⟨g25, 0, none⟩) 2 2] 22) := ⟨_, rfl⟩
                      obtain ⟨g28, eg⟩ : ∃ z, z = w25.heap.size := ⟨_, rfl⟩
                      refine event_step (w1 := w28) (v := .slice (some ⟨g28, 0, none⟩) 1 1) (by rfl) (by rw [ew, eg]; first | (go_simp; done) | (go_simp; rfl)) ?_
                      have HW28 := W18.s15 HW25 ew eg
                      clear ew eg
                      refine hK.out _ _ (HSS2.out _ HW28.out.below) (fun hHeld => ?_)
                      clear hK K
                      refine zW (some 121) ?_
                      refine one_ (i := 5) (N := some 111) #[true, true, true, true, true, true, true, true, true, true, true, true, true, true, true, true, false, true, false, false, false, false, false, false] rfl rfl (one_of HT_.out (by kernel_rfl)) (by decide) (fun K hK => ?_)
                      refine Kd.R_append_rows_step Kb (w0 := wS) wS.heap.size (by rfl) (.tmp 109) (.tmp 110) 44 22 (.slice none 0 0) 24 rfl Try.underlying44 infoR rfl (by decide) (by omega) va21 ([] : List Nat) bs _ _ _ (fun k => 2 = 2 → k ≠ g28) (fun _ => False) rfl rfl (HW28.out.a0 rfl) (Prs.C (HPr.out.below HW28.out.below)) (fun _ _ h => h) (fun _ h => h.elim) (W18.f5 HW28) HW28.out.below HW28.out.below.size (by have := HPL.out; simp; omega) ?_
                      intro vb29 w29 ho hb hg _
                      have HW29 := W18.s5 HW28 ho hb hg
                      clear ho hb hg
                      refine hK.out _ _ (HSS2.out _ HW29.out.below) (fun hHeld => ?_)
                      clear hK K
                      refine zW (some 111) ?_
                      refine norm_ ?_ (hcont (va21, vb29, g25, g28) w29 HW29.out)
                      simp only [putAll, Act.put, List.setIfInBounds_toArray, List.set_cons_zero, List.set_cons_succ]
                · obtain ⟨w30, ew⟩ : ∃ z, z = wS.alloc (.cells #[.int .i64 x, .int .i64 y] 2) := ⟨_, rfl⟩
                  obtain ⟨g30, eg⟩ : ∃ z, z = wS.heap.size := ⟨_, rfl⟩
                  refine event_step (w1 := w30) (v := .slice (some ⟨g30, 0, none⟩) 2 2) (by rfl) (by rw [ew, eg]; first | (go_simp; done) | (go_simp; rfl)) ?_
                  have HW30 := W18.s14 HW0 ew eg
                  clear ew eg
                  refine hK.out _ _ (HSS2.out _ HW30.out.below) (fun hHeld => ?_)
                  clear hK K
                  refine zW (some 120) ?_
                  refine two_ (i := 3) (j := 15) (Ni := some 109) (Nj := some 121) #[true, true, true, true, true, false, true, true, true, true, true, true, true, true, true, false, false, true, false, false, false, false, false, false] #[true, true, true, false, true, false, true, true, true, true, true, true, true, true, true, true, false, true, false, false, false, false, false, false] rfl rfl rfl rfl (two_of HT_.out (by kernel_rfl)) (by decide) (by decide) (fun K hK => ?_) (fun K hK => ?_)
                  · refine Kd.R_lit_step Kb (w0 := wS) wS.heap.size 22 ?hg (N := 109) ?hd (xs := ([] : List Nat)) (inner := []) (ok := fun k => 1 = 2 → k ≠ 0) (okp := fun _ => False) ?hr (Reps.none _ _) (fun _ h => h.elim) (W18.f3 HW30) HW30.out.below HW30.out.below.size (by simp) ?_; (case hd => rfl); (case hg => rfl); (case hr => first | (go_simp; done) | (go_simp; rfl))
                    intro va31 w31 ho hb hg _
                    have HW31 := W18.s3 HW30 ho hb hg
                    clear ho hb hg
                    refine hK.out _ _ (HSS2.out _ HW31.out.below) (fun hHeld => ?_)
                    clear hK K
                    refine zW (some 109) ?_
                    refine two_ (i := 5) (j := 15) (Ni := some 111) (Nj := some 121) #[true, true, true, true, true, true, true, true, true, true, true, true, true, true, true, false, false, true, false, false, false, false, false, false] #[true, true, true, true, true, false, true, true, true, true, true, true, true, true, true, true, false, true, false, false, false, false, false, false] rfl rfl rfl rfl (two_of HT_.out (by kernel_rfl)) (by decide) (by decide) (fun K hK => ?_) (fun K hK => ?_)
                    · refine Kd.R_append_rows_step Kb (w0 := wS) wS.heap.size (by rfl) (.tmp 109) (.tmp 110) 44 22 (.slice none 0 0) 24 rfl Try.underlying44 infoR rfl (by decide) (by omega) va31 ([] : List Nat) bs _ _ _ (fun k => 1 = 2 → k ≠ 0) (fun _ => False) rfl rfl (HW31.out.a0 rfl) (Prs.C (HPr.out.below HW31.out.below)) (fun _ _ h => h) (fun _ h => h.elim) (W18.f5 HW31) HW31.out.below HW31.out.below.size (by have := HPL.out; simp; omega) ?_
                      intro vb32 w32 ho hb hg _
                      have HW32 := W18.s5 HW31 ho hb hg
                      clear ho hb hg
                      refine hK.out _ _ (HSS2.out _ HW32.out.below) (fun hHeld => ?_)
                      clear hK K
                      refine zW (some 111) ?_
                      refine one_ (i := 15) (N := some 121) #[true, true, true, true, true, true, true, true, true, true, true, true, true, true, true, true, false, true, false, false, false, false, false, false] rfl rfl (one_of HT_.out (by kernel_rfl)) (by decide) (fun K hK => ?_)
                      obtain ⟨w33, ew⟩ : ∃ z, z = w32.alloc (.cells #[.slice (some ⟨g30, 0, none⟩) 2 2] 22) := ⟨_, rfl⟩
                      obtain ⟨g33, eg⟩ : ∃ z, z = w32.heap.size := ⟨_, rfl⟩
                      refine event_step (w1 := w33) (v := .slice (some ⟨g33, 0, none⟩) 1 1) (by rfl) (by rw [ew, eg]; first | (go_simp; done) | (go_simp; rfl)) ?_
                      have HW33 := W18.s15 HW32 ew eg
                      clear ew eg
                      refine hK.out _ _ (HSS2.out _ HW33.out.below) (fun hHeld => ?_)
                      clear hK K
                      refine zW (some 121) ?_
                      refine norm_ ?_ (hcont (va31, vb32, g30, g33) w33 HW33.out)
                      simp only [putAll, Act.put, List.setIfInBounds_toArray, List.set_cons_zero, List.set_cons_succ]
                    · obtain ⟨w34, ew⟩ : ∃ z, z = w31.alloc (.cells #[.slice (some ⟨g30, 0, none⟩) 2 2] 22) := ⟨_, rfl⟩
                      obtain ⟨g34, eg⟩ : ∃ z, z = w31.heap.size := ⟨_, rfl⟩
                      refine event_step (w1 := w34) (v := .slice (some ⟨g34, 0, none⟩) 1 1) (by rfl) (by rw [ew, eg]; first | (go_simp; done) | (go_simp; rfl)) ?_
                      have HW34 := W18.s15 HW31 ew eg
                      clear ew eg
                      refine hK.out _ _ (HSS2.out _ HW34.out.below) (fun hHeld => ?_)
                      clear hK K
                      refine zW (some 121) ?_
                      refine one_ (i := 5) (N := some 111) #[true, true, true, true, true, true, true, true, true, true, true, true, true, true, true, true, false, true, false, false, false, false, false, false] rfl rfl (one_of HT_.out (by kernel_rfl)) (by decide) (fun K hK => ?_)
                      refine Kd.R_append_rows_step Kb (w0 := wS) wS.heap.size (by rfl) (.tmp 109) (.tmp 110) 44 22 (.slice none 0 0) 24 rfl Try.underlying44 infoR rfl (by decide) (by omega) va31 ([] : List Nat) bs _ _ _ (fun k => 2 = 2 → k ≠ g34) (fun _ => False) rfl rfl (HW34.out.a0 rfl) (Prs.C (HPr.out.below HW34.out.below)) (fun _ _ h => h) (fun _ h => h.elim) (W18.f5 HW34) HW34.out.below HW34.out.below.size (by have := HPL.out; simp; omega) ?_
                      intro vb35 w35 ho hb hg _
                      have HW35 := W18.s5 HW34 ho hb hg
                      clear ho hb hg
                      refine hK.out _ _ (HSS2.out _ HW35.out.below) (fun hHeld => ?_)
                      clear hK K
                      refine zW (some 111) ?_
                      refine norm_ ?_ (hcont (va31, vb35, g30, g34) w35 HW35.out)
                      simp only [putAll, Act.put, List.setIfInBounds_toArray, List.set_cons_zero, List.set_cons_succ]
                  · obtain ⟨w36, ew⟩ : ∃ z, z = w30.alloc (.cells #[.slice (some ⟨g30, 0, none⟩) 2 2] 22) := ⟨_, rfl⟩
                    obtain ⟨g36, eg⟩ : ∃ z, z = w30.heap.size := ⟨_, rfl⟩
                    refine event_step (w1 := w36) (v := .slice (some ⟨g36, 0, none⟩) 1 1) (by rfl) (by rw [ew, eg]; first | (go_simp; done) | (go_simp; rfl)) ?_
                    have HW36 := W18.s15 HW30 ew eg
                    clear ew eg
                    refine hK.out _ _ (HSS2.out _ HW36.out.below) (fun hHeld => ?_)
                    clear hK K
                    refine zW (some 121) ?_
                    refine one_ (i := 3) (N := some 109) #[true, true, true, true, true, false, true, true, true, true, true, true, true, true, true, true, false, true, false, false, false, false, false, false] rfl rfl (one_of HT_.out (by kernel_rfl)) (by decide) (fun K hK => ?_)
                    refine Kd.R_lit_step Kb (w0 := wS) wS.heap.size 22 ?hg (N := 109) ?hd (xs := ([] : List Nat)) (inner := []) (ok := fun k => 2 = 2 → k ≠ g36) (okp := fun _ => False) ?hr (Reps.none _ _) (fun _ h => h.elim) (W18.f3 HW36) HW36.out.below HW36.out.below.size (by simp) ?_; (case hd => rfl); (case hg => rfl); (case hr => first | (go_simp; done) | (go_simp; rfl))
                    intro va37 w37 ho hb hg _
                    have HW37 := W18.s3 HW36 ho hb hg
                    clear ho hb hg
                    refine hK.out _ _ (HSS2.out _ HW37.out.below) (fun hHeld => ?_)
                    clear hK K
                    refine zW (some 109) ?_
                    refine one_ (i := 5) (N := some 111) #[true, true, true, true, true, true, true, true, true, true, true, true, true, true, true, true, false, true, false, false, false, false, false, false] rfl rfl (one_of HT_.out (by kernel_rfl)) (by decide) (fun K hK => ?_)
                    refine Kd.R_append_rows_step Kb (w0 := wS) wS.heap.size (by rfl) (.tmp 109) (.tmp 110) 44 22 (.slice none 0 0) 24 rfl Try.underlying44 infoR rfl (by decide) (by omega) va37 ([] : List Nat) bs _ _ _ (fun k => 2 = 2 → k ≠ g36) (fun _ => False) rfl rfl (HW37.out.a0 rfl) (Prs.C (HPr.out.below HW37.out.below)) (fun _ _ h => h) (fun _ h => h.elim) (W18.f5 HW37) HW37.out.below HW37.out.below.size (by have := HPL.out; simp; omega) ?_
                    intro vb38 w38 ho hb hg _
                    have HW38 := W18.s5 HW37 ho hb hg
                    clear ho hb hg
                    refine hK.out _ _ (HSS2.out _ HW38.out.below) (fun hHeld => ?_)
                    clear hK K
                    refine zW (some 111) ?_
                    refine norm_ ?_ (hcont (va37, vb38, g30, g36) w38 HW38.out)
                    simp only [putAll, Act.put, List.setIfInBounds_toArray, List.set_cons_zero, List.set_cons_succ]
              case hcont =>
                rintro ⟨va, vb, g, g2⟩ w6 HF6
                have HF := Aside0.mk HF6
                clear HF6 hHeld
                have hHeld := HSS2.out _ HF.out.below
                refine norm_ (a' := ?_) ?_ ?_
                rotate_left
                · simp only [putAll, Act.put, List.setIfInBounds_toArray, List.set_cons_zero, List.set_cons_succ]
                  rfl
                refine one_ (i := 16) (N := some 122) #[true, true, true, true, true, true, true, true, true, true, true, true, true, true, true, true, true, true, false, false, false, false, false, false] rfl rfl (one_of HT_.out (by kernel_rfl)) (by decide) (fun K hK => ?_)
                refine Kd.R_append_rows_step Kb (w0 := wS) wS.heap.size (by rfl) (.tmp 111) (.tmp 121) 44 22 (.slice none 0 0) 24 rfl Try.underlying44 infoR rfl (by decide) (by omega) vb bs [g] _ _ _ (fun _ => True) (fun _ => False) rfl rfl (HF.out.a1 rfl) (W18.row HF) (fun _ _ h => h) (fun _ h => h.elim) (fun _ _ => trivial) HF.out.below HF.out.below.size (by have := HPL.out; have := HPr.out.len; omega) ?_
                intro v7 w7 ho7 hb7 hg7 _
                have HP7 := Aside0.mk (W18.more HPr HBS3w HF ho7 hg7)
                have HB7 := Aside0.mk hb7
                clear ho7 hb7 hg7
                obtain ⟨A7, c7, e7⟩ := Kd.R_slice HP7.out.own
                rw [show (bs ++ [g]).length = (ps ++ [(x, y)]).length from HP7.out.len] at e7
                subst e7
                refine hK.out _ _ (HSS2.out _ HB7.out) (fun hHeld => ?_)
                clear hK K
                refine norm_ (a' := ?_) ?_ ?_
                rotate_left
                · show Act.put _ (some 122) _ = _
                  simp only [Act.put, List.setIfInBounds_toArray, List.set_cons_zero, List.set_cons_succ, i64_w, i32_w]
                  rfl
                refine one_ (i := 18) (N := some 124) #[true, true, true, true, true, true, true, true, true, true, true, true, true, true, true, true, true, true, true, false, false, false, false, false] rfl rfl (one_of HT_.out (by kernel_rfl)) (by decide) (fun K hK => ?_)
                refine goes_ Try.func70 (by kernel_rfl) rfl #[.agg #[.int .i64 n, .slice (some ad) L.length c], .int .i64 (wrap64 ((at_ : Int) + 1)), .slice A7 (ps ++ [(x, y)]).length c7, .int .i64 next] (by rfl) rfl rfl ?hargs ?_
                case hargs => exact zM
                refine (HN2.out w7 A7 c7 (bs ++ [g]) (below_then HBS0.out HBS0.out.size HB7.out) HP7.out).mono ?_
                rintro e w8 ⟨v8, rfl, hq8, hb8⟩
                refine ⟨_, rfl, ?_⟩
                have HB8 := Aside0.mk (below_then HB7.out HB7.out.size hb8)
                have HQ8 := Aside0.mk hq8
                clear hq8 hb8
                refine hK.out _ _ (HSS2.out _ HB8.out) (fun hHeld => ?_)
                clear hK K
                refine norm_ (a' := ?_) ?_ ?_
                rotate_left
                · show Act.put _ (some 124) _ = _
                  simp only [Act.put, List.setIfInBounds_toArray, List.set_cons_zero, List.set_cons_succ, i64_w, i32_w]
                  rfl
                refine zP HT_ 19 (some 105) rfl rfl ?_
                refine zP HT_ 20 (some 125) rfl rfl ?_
                refine zP HT_ 21 (some 126) rfl rfl ?_
                refine zP HT_ 22 (some 18) rfl rfl ?_
                refine zP HT_ 23 (some 19) rfl rfl ?_
                refine done_ (done_of HT_.out (by kernel_rfl)) ?_

                have HB9 : Aside0 (Below w3.heap.size w3 w8) := ⟨below_then HD2.out HD2.out.size (below_then HBS0.out HBS0.out.size HB8.out)⟩
                clear hHeld HSS2 HN2 HB8 HP7 HB7 HF HPr HBS0 HW0 HBS3w
                cases qok with
                | true =>
                  obtain rfl : (qr, true) = q0 := by simpa using HQ0.out
                  obtain ⟨hr, ho⟩ : qr = r ∧ true = ok := by simpa using HJ2.out
                  subst hr ho
                  clear HJ2 HQ0
                  go_wp2
                  go_ret2
                  exact ⟨v8, rfl, HQ8.out, below_then HB3.out HB3.out.size HB9.out⟩
                | false =>
                  have hq1 : tryB (G x) (free.drop (jb + 1)) = some q0 := by simpa using HQ0.out
                  have HJ3 : Aside0 ((tryB (G x) (free.drop (jb + 1))).bind (fun q => if q.2 = true then some (q.1, true) else tryA G (free.drop (ia + 1))) = some (r, ok)) := ⟨by rw [hq1]; exact HJ2.out⟩
                  clear hq1 HQ0 HJ2 HQ8
                  go_wp2
                  go_roundg (free.length - (jb + 1))
                  case measure => omega
                  case rel => exact ⟨jb + 1, by omega, by omega, by rw [wrap_nat jb (by have := HFL.out; omega)], HB9, HJ3⟩
            · have hz : free.drop jb = [] := List.drop_eq_nil_of_le (by omega)
              have hJ := HJ.out
              rw [hz] at hJ
              have HJ2 : Aside0 (tryA G (free.drop (ia + 1)) = some (r, ok)) := ⟨hJ⟩
              have hnj : ¬ (jb : Int) < (free.length : Int) := by omega
              clear HJ hJ hz
              go_wp2
              go_roundg (free.length - (ia + 1))
              case measure => omega
              case rel => exact ⟨ia + 1, by omega, by omega, by rw [wrap_nat ia (by have := HFL.out; omega)], HD2, HJ2⟩
        · have hz : free.drop ia = [] := List.drop_eq_nil_of_le (by omega)
          have hI := HI1.out
          rw [hz] at hI
          obtain ⟨hr, ho⟩ : ([] : List (Int × Int)) = r ∧ false = ok := by simpa [tryA] using hI
          subst hr ho
          have hna : ¬ (ia : Int) < (free.length : Int) := by omega
          clear HI1 hI hz
          go_wp2
          go_ret2
          exact ⟨_, rfl, by rw [if_neg (by decide)]; exact ⟨rfl, rfl⟩, below_then HB3.out HB3.out.size HD1.out⟩
theorem spec_pair (k : Nat) (n : Int) (A : Option Addr) (c : Nat) (L : List Int) (hc : L.length ≤ c) (hL : L.length ≤ 1000) (HK : ∀ s l, impl_nodesOf.f s = some l → spec_l07Nodes.f k s = some l) : ∀ m at_ : Nat, L.length = at_ + m → SpecPair k n A c L at_
  | 0, at_, e => by
    have : at_ = L.length := by omega
    subst this
    exact spec_pair_nil k n A c L
  | m + 1, at_, e => spec_pair_cons k n A c L hc hL HK at_ (by omega) (spec_pair k n A c L hc hL HK m (at_ + 1) (by omega))
end Go.Proofs.Ytjeiifiacjhfoaa.Q
