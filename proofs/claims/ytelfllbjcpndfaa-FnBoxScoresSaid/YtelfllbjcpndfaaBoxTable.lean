/-
  The reference's table of net scores: places, the table's making, scores and best edges with it; codes. Positions alone, as the facts ask.
-/
import Derived.Test.YtelfllbjcpndfaaBoxScore
import Derived.Test.YtelfllbjcpndfaaHof
import Derived.Test.YtelfllbjcpndfaaOnes
import Derived.Test.YtelfllbjcpndfaaSpecBehind2
import Derived.Test.YtelfllbjcpndfaaOutNet
import Derived.Test.YtelfllbjcpndfaaQ2
import Derived.Test.YtelfllbjcpndfaaQ4b
namespace Go.Proofs.Ytelfllbjcpndfaa.B
open Go.RowKit Go.Proofs.Ytelfllbjcpndfaa.Q Go.Proofs.YtelfllbjcpndfaaW.PrintWords Go.Proofs.YtelfllbjcpndfaaW.PrintLast Go.Proofs.YtelfllbjcpndfaaW.PrintMore

/-- The number with the digits of a set at a list's places, the first one the lowest. -/
def pl2 (a : Nat) : List Int → Nat
  | [] => 0
  | f :: fs => (a.testBit f.toNat).toNat + 2 * pl2 a fs
theorem pl2_lt (a : Nat) (l : List Int) : pl2 a l < 2 ^ l.length := by
  induction l with
  | nil => simp [pl2]
  | cons x l ih =>
    simp only [pl2, List.length_cons, Nat.pow_succ]
    cases a.testBit x.toNat <;> simp <;> omega
theorem pl2_bits (a b : Nat) (l : List Int) (e : pl2 a l = pl2 b l) : ∀ x ∈ l, a.testBit x.toNat = b.testBit x.toNat := by
  induction l with
  | nil => intro x hx; cases hx
  | cons y l ih =>
    simp only [pl2] at e
    have h1 : (a.testBit y.toNat).toNat ≤ 1 := by cases a.testBit y.toNat <;> simp
    have h2 : (b.testBit y.toNat).toNat ≤ 1 := by cases b.testBit y.toNat <;> simp
    intro x hx
    rcases List.mem_cons.1 hx with rfl | hx
    · have : (a.testBit x.toNat).toNat = (b.testBit x.toNat).toNat := by omega
      cases ha : a.testBit x.toNat <;> cases hb : b.testBit x.toNat <;> simp_all
    · exact ih (by omega) x hx
theorem or_high (acc n b : Nat) (ha : acc < 2 ^ n) : acc ||| (b * 2 ^ n) = acc + b * 2 ^ n := by
  have := Nat.two_pow_add_eq_or_of_lt ha b
  rw [Nat.or_comm, Nat.mul_comm b, ← this, Nat.add_comm]
theorem shl_bit (b : Bool) (i : Int) (h0 : 0 ≤ i) (h1 : i ≤ 24) : shl .i64 ((b.toNat : Nat) : Int) i = ((b.toNat * 2 ^ i.toNat : Nat) : Int) := by
  cases b with
  | false =>
    have h : ∀ m : Fin 25, shl .i64 0 ((m.val : Nat) : Int) = 0 := by decide +kernel
    have := h ⟨i.toNat, by omega⟩
    simp only [Int.toNat_of_nonneg h0] at this
    simpa using this
  | true => simpa using shl_one i h0 h1
theorem u64_at (n : Int) (h0 : 0 ≤ n) (h1 : n ≤ 1000000) : IntKind.u64.wrap n = n := u64_in n h0 (by omega)
theorem place_l (W H : Int) (a : Nat) (ha : a < 16777216) (F : List Int) (hF : F.length ≤ 24) (hin : ∀ x ∈ F, 0 ≤ x ∧ x ≤ 24) (rest : List Int) : ∀ (j acc : Nat), F.drop j = rest → acc < 2 ^ j →
    Ev (fun k => spec_l03Place.l0 k F (acc : Int) (j : Int) W H a) ((acc + pl2 a rest * 2 ^ j : Nat) : Int) := by
  induction rest with
  | nil =>
    intro j acc hd hacc
    have hj := List.drop_eq_nil_iff.1 hd
    refine evSucc (fun k => by rw [spec_l03Place.l0]) ?_
    exact evF (by omega) (evE (by simp [pl2]) (evS _))
  | cons x rest ih =>
    intro j acc hd hacc
    have hj : j < F.length := by
      rcases Nat.lt_or_ge j F.length with c | c
      · exact c
      · rw [List.drop_eq_nil_of_le c] at hd; cases hd
    have e1 := List.drop_eq_getElem_cons hj
    rw [hd] at e1
    injection e1 with e2 e3
    have hrd : rd F (j : Int) = x := by
      unfold rd
      rw [Int.toNat_natCast, List.getD_eq_getElem?_getD, List.getElem?_eq_getElem hj, e2]
      rfl
    obtain ⟨x0, x1⟩ := hin x (by rw [e2]; exact List.getElem_mem hj)
    refine evSucc (fun k => by rw [spec_l03Place.l0]) ?_
    have hb := dig_bit a x (small62 ha) x0 (by omega)
    unfold dig at hb
    rw [hrd, u64_at x x0 (by omega), u64_at (j : Int) (by omega) (by omega), hb, shl_bit _ (j : Int) (by omega) (by omega), Int.toNat_natCast, wrap_in (x := (j : Int) + 1) (by omega) (by omega)]
    have hle : (a.testBit x.toNat).toNat ≤ 1 := by cases a.testBit x.toNat <;> simp
    have hpw : 2 ^ j ≤ 2 ^ 24 := Nat.pow_le_pow_right (by decide) (by omega)
    have hpw2 : 2 ^ (j + 1) = 2 * 2 ^ j := by rw [Nat.pow_succ, Nat.mul_comm]
    have hmul : (a.testBit x.toNat).toNat * 2 ^ j ≤ 2 ^ j := by cases a.testBit x.toNat <;> simp
    rw [or_nat acc _ (by omega) (by omega), or_high acc j _ hacc]
    refine evT (by omega) (evT (by omega) (evT x0 (evT (by omega) (evE ?_ (ih (j + 1) (acc + (a.testBit x.toNat).toNat * 2 ^ j) e3.symm (by omega))))))
    congr 1
    simp only [pl2]
    rw [hpw2, Nat.add_mul, Nat.mul_assoc 2, Nat.mul_left_comm (pl2 a rest) 2, Nat.add_assoc]
theorem place_spec (W H : Int) (a : Nat) (ha : a < 16777216) (F : List Int) (hF : F.length ≤ 24) (hin : ∀ x ∈ F, 0 ≤ x ∧ x ≤ 24) : Ev (fun k => spec_l03Place.f k W H a F) ((pl2 a F : Nat) : Int) := by
  unfold spec_l03Place.f
  exact evE (by simp) (place_l W H a ha F hF hin F 0 0 rfl (by simp))
theorem table_l (n : Nat) (hn : n ≤ 4096) (d : Nat) : ∀ (i : Nat), i + d = n → Ev (fun k => spec_l03Table.l0 k (List.replicate i (-100) ++ List.replicate d 0) (n : Int) (i : Int)) (List.replicate n (-100)) := by
  induction d with
  | zero =>
    intro i h
    refine evSucc (fun k => by rw [spec_l03Table.l0]) ?_
    obtain rfl : i = n := by omega
    exact evF (by omega) (evE (by simp) (evS _))
  | succ d ih =>
    intro i h
    refine evSucc (fun k => by rw [spec_l03Table.l0]) ?_
    rw [wrap_in (by omega) (by omega), Int.toNat_natCast]
    have e : (List.replicate i (-100 : Int) ++ List.replicate (d + 1) 0).set i (-100) = List.replicate (i + 1) (-100) ++ List.replicate d 0 := by
      rw [List.set_append_right _ _ (by simp), show List.replicate (i + 1) (-100 : Int) = List.replicate i (-100) ++ [-100] from List.replicate_succ', List.append_assoc]
      simp [List.replicate_succ]
    rw [e]
    exact evT (by omega) (evT (by omega) (evT (by simp; omega) (ih (i + 1) (by omega))))
theorem table_spec (F : List Int) (hF : F.length ≤ 12) : Ev (fun k => spec_l03Table.f k F) (List.replicate (2 ^ F.length) (-100)) := by
  unfold spec_l03Table.f
  have hp : 2 ^ F.length ≤ 2 ^ 12 := Nat.pow_le_pow_right (by decide) hF
  rw [u64_at _ (by omega) (by omega), shl_one _ (by omega) (by omega), Int.toNat_natCast, Int.toNat_natCast]
  generalize 2 ^ F.length = q at hp ⊢
  refine evT (by omega) (evT (by omega) (evT (by omega) (evG rfl ?_)))
  have := table_l q (by omega) q 0 (by omega)
  simpa using this
/-- The positions of a table over the edges that were free at a position o, and their places. -/
def okT (W H : Int) (o : Nat) (a : Nat) : Prop := isBoxB W H a = true ∧ isBoxB W H o = true ∧ ∀ j : Nat, (j : Int) ∉ freeL W H o → a.testBit j = o.testBit j
def plT (W H : Int) (o : Nat) (a : Nat) : Nat := pl2 a (freeL W H o)
theorem plT_inj (W H : Int) (o : Nat) (a b : Nat) (ha : okT W H o a) (hb : okT W H o b) (e : plT W H o a = plT W H o b) : a = b := by
  refine Nat.eq_of_testBit_eq (fun j => ?_)
  by_cases hj : (j : Int) ∈ freeL W H o
  · have := pl2_bits a b _ e (j : Int) hj
    rwa [Int.toNat_natCast] at this
  · rw [ha.2.2 j hj, hb.2.2 j hj]
def TabS (W H : Int) (o : Nat) (t : List Int) : Prop := TabU (-100) (okT W H o) (plT W H o) (sc W H) (2 ^ (freeL W H o).length) t
theorem TabS.new (W H : Int) (o : Nat) : TabS W H o (List.replicate (2 ^ (freeL W H o).length) (-100)) := TabU.new (fun a _ => pl2_lt a _)
theorem TabS.put {W H : Int} {o : Nat} {t : List Int} (h : TabS W H o t) (a : Nat) (ha : okT W H o a) : TabS W H o (t.set (plT W H o a) (sc W H a)) := TabU.set h (plT_inj W H o) a ha
theorem TabS.at {W H : Int} {o : Nat} {t : List Int} (h : TabS W H o t) (a : Nat) (ha : okT W H o a) : ((plT W H o a : Nat) : Int) < t.length ∧ (rd t ((plT W H o a : Nat) : Int) = -100 ∨ rd t ((plT W H o a : Nat) : Int) = sc W H a) := by
  obtain ⟨h1, h2⟩ := h.2 a ha
  refine ⟨by rw [h.1]; exact_mod_cast h1, ?_⟩
  unfold rd
  rw [Int.toNat_natCast]
  exact h2
theorem okT_put {W H : Int} {o a : Nat} (ha : okT W H o a) (e : Int) (he : e ∈ freeL W H a) : okT W H o (B.put a e) := by
  obtain ⟨h0, h1, hb⟩ := (mem_free ha.1 e).1 he
  refine ⟨put_box ha.1 e h0 h1, ha.2.1, fun j hj => ?_⟩
  unfold B.put
  rw [or_bit, ha.2.2 j hj]
  by_cases c : e.toNat = j
  · exfalso
    have hbj := ha.2.2 j hj
    rw [← c, hb] at hbj
    apply hj
    rw [← c, Int.toNat_of_nonneg h0]
    exact (mem_free ha.2.1 e).2 ⟨h0, h1, hbj.symm⟩
  · simp [c]
theorem free_bounds {W H : Int} {o : Nat} (h : isBoxB W H o = true) : ∀ x ∈ freeL W H o, 0 ≤ x ∧ x ≤ 24 := by
  intro x hx
  obtain ⟨h0, h1, _⟩ := (mem_free h x).1 hx
  obtain ⟨_, _, _, _, f3, _⟩ := box_facts h
  omega
theorem rd_drop {l rest : List Int} {x : Int} {j : Nat} (h : l.drop j = x :: rest) : j < l.length ∧ rd l (j : Int) = x ∧ l.drop (j + 1) = rest ∧ x ∈ l := by
  have hj : j < l.length := by
    rcases Nat.lt_or_ge j l.length with c | c
    · exact c
    · rw [List.drop_eq_nil_of_le c] at h; cases h
  have e := List.drop_eq_getElem_cons hj
  rw [h] at e
  injection e with e1 e2
  refine ⟨hj, ?_, e2.symm, ?_⟩
  · unfold rd
    rw [Int.toNat_natCast, List.getD_eq_getElem?_getD, List.getElem?_eq_getElem hj, e1]
    rfl
  · rw [e1]
    exact List.getElem_mem hj
section
variable (W H : Int) (o : Nat)
theorem behind_spec (a : Nat) (ha : okT W H o a) (e : Int) (he : e ∈ freeL W H a) (T T' : List Int) (h : Ev (fun k => spec_l03Score.f k W H (put a e : Nat) (freeL W H o) T) (sc W H (put a e), T')) :
    Ev (fun k => spec_l03Behind.F (spec_l03Score.f k) k W H a e (freeL W H o) T) (bh (sc W H) W H a e, T') := by
  obtain ⟨h0, h1, hb⟩ := (mem_free ha.1 e).1 he
  have h2 := sc_small (put_box ha.1 e h0 h1)
  have h3 := taken_range ha.1
  have h4 := taken_range (put_box ha.1 e h0 h1)
  unfold spec_l03Behind.F
  refine evB (move_spec W H a e ha.1 h0 h1) ?_
  simp only
  rw [addE_put ha.1 e h0 h1, gain_taken ha.1 e h0 h1]
  refine evB h (evE ?_ (evS _))
  unfold bh
  split
  · simp only
    rw [wrap_in (by omega) (by omega)]
  · simp only
    rw [wrap_in (by omega) (by omega)]
theorem score_l (a : Nat) (ha : okT W H o a) (hne : freeL W H a ≠ []) (ih : ∀ e ∈ freeL W H a, ∀ T, TabS W H o T → ∃ T', Ev (fun k => spec_l03Score.f k W H (put a e : Nat) (freeL W H o) T) (sc W H (put a e), T') ∧ TabS W H o T')
    (rest : List Int) : ∀ (j : Nat) (T : List Int) (best : Int), (freeL W H a).drop j = rest → TabS W H o T → rest.foldl (fun b e => mx b (bh (sc W H) W H a e)) best = sc W H a →
      ∃ T', Ev (fun k => spec_l03Score.l0 k (freeL W H o) T ((plT W H o a : Nat) : Int) (freeL W H a) best (j : Int) W H a) (sc W H a, T') ∧ TabS W H o T' := by
  have hl := freeL_len W H a ha.1
  induction rest with
  | nil =>
    intro j T best hd hT hb
    simp only [List.foldl_nil] at hb
    subst hb
    have hj := List.drop_eq_nil_iff.1 hd
    obtain ⟨h1, _⟩ := hT.at a ha
    refine ⟨T.set (plT W H o a) (sc W H a), ?_, hT.put a ha⟩
    refine evSucc (fun k => by rw [spec_l03Score.l0]) ?_
    have hpos : 0 < (freeL W H a).length := List.length_pos_iff.2 hne
    refine evF (by omega) (evF (by omega) (evT (by omega) (evT h1 (evE ?_ (evS _)))))
    rw [Int.toNat_natCast]
  | cons x rest ihr =>
    intro j T best hd hT hb
    obtain ⟨hj, hx, hd2, hmem⟩ := rd_drop hd
    obtain ⟨T1, h1, h2⟩ := ih x hmem T hT
    obtain ⟨T', h3, h4⟩ := ihr (j + 1) T1 (mx best (bh (sc W H) W H a x)) hd2 h2 (by simpa using hb)
    refine ⟨T', ?_, h4⟩
    refine evSucc (fun k => by rw [spec_l03Score.l0]) ?_
    rw [hx, wrap_in (x := (j : Int) + 1) (by omega) (by omega)]
    exact evT (by omega) (evT (by omega) (evB (behind_spec W H o a ha x hmem T T1 h1) h3))
variable (hF : (freeL W H o).length ≤ 12)
include hF
theorem score_spec (m : Nat) : ∀ (a : Nat) (T : List Int), okT W H o a → (freeL W H a).length < m → TabS W H o T → ∃ T', Ev (fun k => spec_l03Score.f k W H a (freeL W H o) T) (sc W H a, T') ∧ TabS W H o T' := by
  induction m with
  | zero => intro a T ha hm; omega
  | succ m ihm =>
    intro a T ha hm hT
    obtain ⟨_, _, hs, _⟩ := box_facts ha.1
    obtain ⟨h1, h2⟩ := hT.at a ha
    have hpl := place_spec W H a hs (freeL W H o) (by omega) (free_bounds ha.2.1)
    have hr := sc_small ha.1
    by_cases hk : rd T ((plT W H o a : Nat) : Int) > -100
    · refine ⟨T, ?_, hT⟩
      refine evSucc (fun k => by rw [spec_l03Score.f]) ?_
      refine evB hpl (evT (by omega) (evT h1 (evT hk (evE ?_ (evS _)))))
      have hv : rd T ((pl2 a (freeL W H o) : Nat) : Int) = sc W H a := by
        rcases h2 with h2 | h2
        · exact absurd h2 (by omega)
        · exact h2
      rw [hv]
    · by_cases hne : freeL W H a = []
      · have e0 : sc W H a = 0 := by rw [sc_eq ha.1, hne]; rfl
        refine ⟨T.set (plT W H o a) (sc W H a), ?_, hT.put a ha⟩
        refine evSucc (fun k => by rw [spec_l03Score.f]) ?_
        refine evB hpl (evT (by omega) (evT h1 (evF hk (evB (free_spec W H a ha.1) ?_))))
        refine evSucc (fun k => by rw [spec_l03Score.l0]) ?_
        rw [hne, e0]
        refine evF (by simp) (evT (by simp) (evT (by omega) (evT h1 (evE ?_ (evS _)))))
        rw [Int.toNat_natCast]
        rfl
      · obtain ⟨T', h3, h4⟩ := score_l W H o a ha hne (fun e he T hT => by
          obtain ⟨h0, h1', _⟩ := (mem_free ha.1 e).1 he
          exact ihm (put a e) T (okT_put ha e he) (by have := free_put_len ha.1 e he; omega) hT) (freeL W H a) 0 T (-99) rfl hT (by
            rw [sc_eq ha.1]
            refine best_low _ _ (-99) hne (fun x hx => ?_)
            obtain ⟨h0, h1', _⟩ := (mem_free ha.1 x).1 hx
            have := bh_small ha.1 x h0 h1'
            omega)
        refine ⟨T', ?_, h4⟩
        refine evSucc (fun k => by rw [spec_l03Score.f]) ?_
        exact evB hpl (evT (by omega) (evT h1 (evF hk (evB (free_spec W H a ha.1) h3))))
/-- The edges that bring the net score. -/
def bestL (W H : Int) (a : Nat) : List Int := (freeL W H a).filter fun e => bh (sc W H) W H a e == sc W H a
theorem best_l (a : Nat) (ha : okT W H o a) (rest : List Int) : ∀ (j : Nat) (T acc : List Int), (freeL W H a).drop j = rest → TabS W H o T → acc.length ≤ j →
    ∃ T', Ev (fun k => spec_l03Best.l0 k (freeL W H o) T (freeL W H a) (sc W H a) acc (j : Int) W H a) (acc ++ rest.filter (fun e => bh (sc W H) W H a e == sc W H a), T') ∧ TabS W H o T' := by
  have hl := freeL_len W H a ha.1
  induction rest with
  | nil =>
    intro j T acc hd hT hacc
    have hj := List.drop_eq_nil_iff.1 hd
    refine ⟨T, ?_, hT⟩
    refine evSucc (fun k => by rw [spec_l03Best.l0]) ?_
    exact evF (by omega) (evE (by simp) (evS _))
  | cons x rest ihr =>
    intro j T acc hd hT hacc
    obtain ⟨hj, hx, hd2, hmem⟩ := rd_drop hd
    obtain ⟨T1, h1, h2⟩ := score_spec W H o hF ((freeL W H a).length + 1) (put a x) T (okT_put ha x hmem) (by have := free_put_len ha.1 x hmem; omega) hT
    have hB := behind_spec W H o a ha x hmem T T1 h1
    by_cases c : bh (sc W H) W H a x = sc W H a
    · obtain ⟨T', h3, h4⟩ := ihr (j + 1) T1 (acc ++ [x]) hd2 h2 (by simp; omega)
      refine ⟨T', ?_, h4⟩
      refine evSucc (fun k => by rw [spec_l03Best.l0]) ?_
      rw [hx, wrap_in (x := (j : Int) + 1) (by omega) (by omega)]
      exact evT (by omega) (evT (by omega) (evB hB (evT c (evT (by omega) (evE (by simp [c]) h3)))))
    · obtain ⟨T', h3, h4⟩ := ihr (j + 1) T1 acc hd2 h2 (by omega)
      refine ⟨T', ?_, h4⟩
      refine evSucc (fun k => by rw [spec_l03Best.l0]) ?_
      rw [hx, wrap_in (x := (j : Int) + 1) (by omega) (by omega)]
      exact evT (by omega) (evT (by omega) (evB hB (evF c (evE (by simp [c]) h3))))
theorem best_spec (a : Nat) (ha : okT W H o a) (T : List Int) (hT : TabS W H o T) : ∃ T', Ev (fun k => spec_l03Best.f k W H a (freeL W H o) T) (bestL W H a, T') ∧ TabS W H o T' := by
  obtain ⟨T1, h1, h2⟩ := score_spec W H o hF ((freeL W H a).length + 1) a T ha (by omega) hT
  obtain ⟨T', h3, h4⟩ := best_l W H o hF a ha (freeL W H a) 0 T1 [] rfl h2 (by simp)
  refine ⟨T', ?_, h4⟩
  unfold spec_l03Best.f
  exact evB (free_spec W H a ha.1) (evB h1 (evE (by simp [bestL]) h3))
end
theorem best_impl (W H : Int) (a : Nat) (h : isBoxB W H a = true) (hF : (freeL W H a).length ≤ 12) : Ev (fun k => bestF k W H 14 a) (bestL W H a) := by
  unfold bestF bestL
  refine evG (free_impl W H a h) (evE ?_ (delP_ev _ (fun e => bh (sc W H) W H a e != sc W H a) _ (fun e he => ?_)))
  · congr 1
    funext e
    cases hq : (bh (sc W H) W H a e == sc W H a) <;> simp_all
  · obtain ⟨h0, h1, _⟩ := (mem_free h e).1 he
    have := free_put_len h e he
    unfold worseP
    exact evB (behind_impl h e h0 h1 (fun k => scoreF k W H 14) (score_impl W H 14 (put a e) (put_box h e h0 h1) (by omega))) (evB (score_impl W H 14 a h (by omega)) (evS _))
/-- The code of a position for which the net score is looked for. -/
def codeN (W H E : Int) : Int := if isBoxB W H E = true then if (freeL W H E).length > 12 then 3 else 0 else 1
theorem given_spec (W H E : Int) : Ev (fun k => spec_l03Given.f k W H E) (codeN W H E) := by
  unfold spec_l03Given.f codeN
  rw [isBox_spec]
  cases h : isBoxB W H E with
  | true =>
    refine evG rfl (evT rfl (evB (free_spec W H E h) ?_))
    by_cases c : (freeL W H E).length > 12
    · exact evT (by omega) (evE (by simp [c]) (evS _))
    · exact evF (by omega) (evE (by simp [c]) (evS _))
  | false => exact evG rfl (evF (by simp) (evE (by simp) (evS _)))
theorem free_pop (a : Nat) (d : Nat) : ∀ i : Nat, ((seg (i : Int) d).filter (fun x => !a.testBit x.toNat)).length + popF d (a / 2 ^ i) = d := by
  induction d with
  | zero => intro i; simp [seg, popF]
  | succ d ih =>
    intro i
    have h1 := ih (i + 1)
    have e1 : a / 2 ^ i / 2 = a / 2 ^ (i + 1) := by rw [Nat.div_div_eq_div_mul, Nat.pow_succ]
    have eb : a.testBit i = decide (a / 2 ^ i % 2 = 1) := Nat.testBit_eq_decide_div_mod_eq
    simp only [seg, List.filter_cons, popF, Int.toNat_natCast]
    rw [e1]
    rw [show ((i + 1 : Nat) : Int) = (i : Int) + 1 by omega] at h1
    rcases Nat.mod_two_eq_zero_or_one (a / 2 ^ i) with e | e
    · simp [eb, e]; omega
    · simp [eb, e]; omega
theorem free_ones {W H : Int} {a : Nat} (h : isBoxB W H a = true) : ((freeL W H a).length : Int) = cnt W H - pop a := by
  obtain ⟨_, _, h3, f2, f3, hlt⟩ := box_facts h
  have h1 := free_pop a (cnt W H).toNat 0
  have e : freeL W H a = (seg ((0 : Nat) : Int) (cnt W H).toNat).filter (fun x => !a.testBit x.toNat) := by
    unfold freeL
    refine List.filter_congr (fun x hx => ?_)
    have hm := (mem_seg _ _ _).1 hx
    exact notDrawn_bit a x (small62 h3) (by omega) (by omega)
  rw [← e, Nat.pow_zero, Nat.div_one] at h1
  have h2 : pop a = popF (cnt W H).toNat a := by
    unfold pop
    rw [show 64 = (cnt W H).toNat + (64 - (cnt W H).toNat) by omega]
    exact popF_more _ _ _ hlt
  rw [h2]
  omega
theorem ones_some (x : Int) : ∃ n, bits_OnesCount64.f x = some n := ⟨_, rfl⟩
theorem code_impl (W H E : Int) : Ev (fun k => impl_scoreCode.f k W H E) (codeN W H E) := by
  unfold impl_scoreCode.f codeN
  rw [isBox_impl]
  have hE : ∃ c, impl_Boxes_edges.f W H E = some c := ⟨_, rfl⟩
  cases h : isBoxB W H E with
  | true =>
    obtain ⟨w, hh, e0, e1⟩ := (isBoxB_iff W H E).1 h
    obtain ⟨a, rfl⟩ := Int.eq_ofNat_of_zero_le e0
    obtain ⟨_, _, h3, f2, f3, hlt⟩ := box_facts h
    have f1 := (cnt_facts W H w.1 w.2 hh.1 hh.2).1
    have hp : pop a ≤ (cnt W H).toNat := pop_lt _ a (by omega) hlt
    have hfo := free_ones h
    refine evG rfl (evG (show impl_Boxes_edges.f W H (a : Int) = some (cnt W H) by unfold impl_Boxes_edges.f; rw [f1]) (evG (show bits_OnesCount64.f (IntKind.u64.wrap (a : Int)) = some (pop a : Int) by rw [u64_id a (by omega)]; exact ones_go a h3) ?_))
    refine evB (first_two _ _ _ _) (evE ?_ (evS _))
    rw [wrap_in (by omega) (by omega), ← hfo]
    by_cases c : (freeL W H (a : Int)).length > 12
    · have c2 : ¬ ((freeL W H (a : Int)).length : Int) ≤ 12 := by omega
      simp [c, c2]
    · have c2 : ((freeL W H (a : Int)).length : Int) ≤ 12 := by omega
      simp [c, c2]
  | false =>
    obtain ⟨c, hc⟩ := hE
    obtain ⟨n, hn⟩ := ones_some (IntKind.u64.wrap E)
    refine evG rfl (evG hc (evG hn (evB (first_two _ _ _ _) (evE ?_ (evS _)))))
    simp
theorem codeN_zero (W H E : Int) (h : codeN W H E = 0) : isBoxB W H E = true ∧ (freeL W H E).length ≤ 12 := by
  unfold codeN at h
  split at h
  · rename_i hb
    split at h
    · omega
    · exact ⟨hb, by omega⟩
  · omega
end Go.Proofs.Ytelfllbjcpndfaa.B
