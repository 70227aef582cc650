/-
  Sets of nodes below 2^16, and a set with one node more.
  Sets of nodes as numbers: digits, nodes that are free, one node more, lines that are filled; what the program's functions come to. Boards alone, as the facts ask.
  The reference's table of states of a board: places, the table's making, and lines that are filled. Boards alone, as the facts ask.
-/
import Derived.Test.YtbmkhdeeengbmaaQ3
import Derived.Test.YtbmkhdeeengbmaaQ6
import Derived.Test.YtbmkhdeeengbmaaHof
import Derived.Test.YtbmkhdeeengbmaaBoard
import Derived.Test.YtbmkhdeeengbmaaQ4
import Derived.Test.YtbmkhdeeengbmaaQ1

namespace Go.Proofs.Ytbmkhdeeengbmaa.Q
open Go.RowKit Go.Proofs.YtbmkhdeeengbmaaW.PrintWords Go.Proofs.YtbmkhdeeengbmaaW.PrintLast Go.Proofs.YtbmkhdeeengbmaaW.PrintMore

def okR (o t : Int) : Prop := 0 ≤ o ∧ o < 65536 ∧ 0 ≤ t ∧ t < 65536
instance (o t : Int) : Decidable (okR o t) := by unfold okR; infer_instance
def withN (o p : Int) : Int := Go.bits .or .i64 o (shl .i64 1 p)
end Go.Proofs.Ytbmkhdeeengbmaa.Q

namespace Go.Proofs.Ytbmkhdeeengbmaa.B
open Go.RowKit Go.Proofs.Ytbmkhdeeengbmaa.Q Go.Proofs.YtbmkhdeeengbmaaW.PrintWords Go.Proofs.YtbmkhdeeengbmaaW.PrintLast Go.Proofs.YtbmkhdeeengbmaaW.PrintMore

theorem pow62 (n m : Nat) (hm : m ≤ n) (hn : n < 62) : (2 : Nat) ^ m < 2 ^ 62 := Nat.pow_lt_pow_right (by decide) (by omega)
theorem dig_bit (a : Nat) (i : Int) (ha : a < 2 ^ 62) (h0 : 0 ≤ i) (h1 : i ≤ 60) : Go.bits .and .i64 (shr .i64 (a : Int) i) 1 = (((a.testBit i.toNat).toNat : Nat) : Int) := by
  have k62 : (2 : Nat) ^ 62 = 4611686018427387904 := by decide
  have r := shr_range (a : Int) i (by omega) (by omega)
  rw [bit01 _ r.1 r.2]
  unfold shr
  rw [show min i.toNat IntKind.i64.bits = i.toNat from Nat.min_eq_left (by have : IntKind.i64.bits = 64 := rfl; omega)]
  have e2 : ((2 : Int) ^ i.toNat) = ((2 ^ i.toNat : Nat) : Int) := by push_cast; rfl
  rw [e2, Nat.testBit_eq_decide_div_mod_eq]
  generalize 2 ^ i.toNat = m
  have : ((a : Int) / (m : Int)) % 2 = ((a / m % 2 : Nat) : Int) := by push_cast; rfl
  rw [this]
  rcases Nat.mod_two_eq_zero_or_one (a / m) with e | e <;> simp [e]
theorem Two.small {n a b : Nat} (h : Two n a b) (hn : n ≤ 61) : a < 2 ^ 62 ∧ b < 2 ^ 62 := ⟨Nat.lt_trans h.1 (pow62 61 n hn (by decide)), Nat.lt_trans h.2.1 (pow62 61 n hn (by decide))⟩
theorem Two.le16 {n a b : Nat} (h : Two n a b) (hn : n ≤ 16) : a < 65536 ∧ b < 65536 := by
  have : (2 : Nat) ^ n ≤ 65536 := Nat.pow_le_pow_right (n := 2) (by decide) hn
  have := h.1
  have := h.2.1
  omega
theorem dg_swap (a b i : Nat) : dg b a i = 0 ↔ dg a b i = 0 := by rw [dg_zero, dg_zero]; exact And.comm
theorem Two.swap {n a b : Nat} (h : Two n a b) : Two n b a := ⟨h.2.1, h.1, fun i => (dg_three b a i).2 (fun c => (dg_three a b i).1 (h.2.2 i) ⟨c.2, c.1⟩)⟩
theorem fr_swap (a b : Nat) : ∀ n, fr b a n = fr a b n
  | 0 => rfl
  | n + 1 => by
    unfold fr
    rw [fr_swap a b n]
    by_cases c : dg a b n = 0
    · rw [if_pos c, if_pos ((dg_swap a b n).2 c)]
    · rw [if_neg c, if_neg (fun e => c ((dg_swap a b n).1 e))]
theorem popF_put (d : Nat) : ∀ (a i : Nat), i < d → a.testBit i = false → popF d (a ||| 2 ^ i) = popF d a + 1 := by
  induction d with
  | zero => intro a i hi; omega
  | succ d ih =>
    intro a i hi h
    simp only [popF, Nat.or_div_two]
    cases i with
    | zero =>
      have h1 : a % 2 = 0 := by
        rw [Nat.testBit_zero] at h
        have := of_decide_eq_false h
        omega
      have h2 : (a ||| 2 ^ 0) % 2 = 1 := Nat.or_mod_two_eq_one.2 (.inr rfl)
      rw [h1, h2, show (2 ^ 0 : Nat) / 2 = 0 by decide, Nat.or_zero]
      omega
    | succ i =>
      have h1 : (a ||| 2 ^ (i + 1)) % 2 = a % 2 := by
        have e := Nat.or_mod_two_eq_one (a := a) (b := 2 ^ (i + 1))
        have z : (2 ^ (i + 1) : Nat) % 2 = 0 := by rw [Nat.pow_succ]; omega
        rcases Nat.mod_two_eq_zero_or_one a with c | c
        · rcases Nat.mod_two_eq_zero_or_one (a ||| 2 ^ (i + 1)) with g | g
          · omega
          · have := e.1 g
            omega
        · have := e.2 (.inl c)
          omega
      have h2 : (2 ^ (i + 1) : Nat) / 2 = 2 ^ i := by rw [Nat.pow_succ]; omega
      rw [h1, h2, ih (a / 2) i (by omega) (by rw [Nat.testBit_div_two]; exact h)]
      omega
/-- A set with one node more. -/
def put (a : Nat) (p : Int) : Nat := a ||| 2 ^ p.toNat
theorem pop_put (a : Nat) (p : Int) (hp : p ≤ 60) (h : a.testBit p.toNat = false) : pop (put a p) = pop a + 1 := popF_put 64 a p.toNat (by omega) h
theorem withN_put (a : Nat) (p : Int) (ha : a < 65536) (h0 : 0 ≤ p) (h1 : p ≤ 16) : withN (a : Int) p = ((put a p : Nat) : Int) := by
  have k62 : (2 : Nat) ^ 62 = 4611686018427387904 := by decide
  unfold withN
  rw [shl_one p h0 (by omega)]
  exact or_nat _ _ (by omega) (Nat.pow_lt_pow_right (by decide) (by omega))
/-- The nodes in none of two sets. -/
def freeN (n : Int) (a b : Nat) : List Int := (seg 0 n.toNat).filter fun p => dg a b p.toNat == 0
theorem mem_freeN {n : Int} {a b : Nat} (p : Int) : p ∈ freeN n a b ↔ 0 ≤ p ∧ p < n.toNat ∧ dg a b p.toNat = 0 := by
  unfold freeN
  rw [List.mem_filter, mem_seg]
  simp only [beq_iff_eq]
  omega
theorem freeN_swap (n : Int) (a b : Nat) : freeN n b a = freeN n a b := by
  unfold freeN
  refine List.filter_congr (fun x _ => ?_)
  rw [Bool.eq_iff_iff, beq_iff_eq, beq_iff_eq]
  exact dg_swap a b x.toNat
theorem freeN_len (n : Int) (a b : Nat) : (freeN n a b).length ≤ n.toNat := filter_length_le_seg _ _ _
theorem freeN_nil {n : Int} {a b : Nat} : freeN n a b = [] ↔ fr a b n.toNat = 0 := by
  constructor
  · intro h
    rcases Nat.eq_zero_or_pos (fr a b n.toNat) with c | c
    · exact c
    · exfalso
      obtain ⟨i, hi, hd⟩ : ∃ i, i < n.toNat ∧ dg a b i = 0 := by
        by_cases e : ∃ i, i < n.toNat ∧ dg a b i = 0
        · exact e
        · exfalso
          have hz : ∀ m, m ≤ n.toNat → fr a b m = 0 := by
            intro m
            induction m with
            | zero => intro _; rfl
            | succ m ih =>
              intro hm
              unfold fr
              rw [ih (by omega), if_neg (fun c => e ⟨m, by omega, c⟩)]
          have := hz n.toNat (by omega)
          omega
      have : (i : Int) ∈ freeN n a b := (mem_freeN _).2 ⟨by omega, by omega, by rw [Int.toNat_natCast]; exact hd⟩
      rw [h] at this
      cases this
  · intro h
    refine List.eq_nil_iff_forall_not_mem.2 (fun p hp => ?_)
    obtain ⟨h0, h1, h2⟩ := (mem_freeN p).1 hp
    exact fr_none a b n.toNat h p.toNat (by omega) h2
theorem put_fr {n : Int} {a b : Nat} {p : Int} (h : p ∈ freeN n a b) : fr (put a p) b n.toNat + 1 = fr a b n.toNat := by
  obtain ⟨h0, h1, h2⟩ := (mem_freeN p).1 h
  exact fr_left n.toNat a b p.toNat (by omega) h2
theorem put_two {n : Int} {a b : Nat} {p : Int} (h : p ∈ freeN n a b) (ht : Two n.toNat a b) : Two n.toNat (put a p) b := by
  obtain ⟨h0, h1, h2⟩ := (mem_freeN p).1 h
  exact ht.left (by omega) h2
/-- Whether a set has all nodes of a line. -/
def fl (L : List Int) (s : Nat) : Bool := !(fillF L s L.length 0 == 0)
theorem seg_append (a b : Nat) : ∀ i : Int, seg i (a + b) = seg i a ++ seg (i + a) b := by
  induction a with
  | zero => intro i; simp [seg]
  | succ a ih =>
    intro i
    rw [show a + 1 + b = (a + b) + 1 by omega]
    simp only [seg, ih, List.cons_append]
    rw [show i + 1 + (a : Int) = i + ((a + 1 : Nat) : Int) by omega]
theorem free_impl (n : Int) (L : List Int) (hn : 1 ≤ n ∧ n ≤ 16) (o t : Nat) (h : Two n.toNat o t) : impl_Board_free.f n L o t = some (freeN n o t) := by
  have k62 : (2 : Nat) ^ 62 = 4611686018427387904 := by decide
  obtain ⟨ho, ht⟩ := h.le16 (by omega)
  obtain ⟨f1, f2, f3, _, _⟩ := full_shl n hn
  have e1 : full n = ((2 ^ n.toNat - 1 : Nat) : Int) := by
    have := Nat.one_le_two_pow (n := n.toNat)
    unfold full
    omega
  unfold impl_Board_free.f impl_nodesOf.f choose_nodesOf.f
  rw [if_pos (by omega), if_pos (by omega), f1]
  have e2 : (2 ^ n.toNat - 1 : Nat) < 2 ^ 62 := by omega
  have e3 : o ||| t < 2 ^ 62 := Nat.or_lt_two_pow (by omega) (by omega)
  rw [e1, or_nat o t (by omega) (by omega), andNot_nat _ _ e2 e3]
  have hb : ∀ x, (((2 ^ n.toNat - 1) ^^^ ((2 ^ n.toNat - 1) &&& (o ||| t)) : Nat)).testBit x = (decide (x < n.toNat) && !(o.testBit x || t.testBit x)) := by
    intro x
    rw [Nat.testBit_xor, Nat.testBit_and, Nat.testBit_or, Nat.testBit_two_pow_sub_one]
    cases decide (x < n.toNat) <;> cases o.testBit x <;> cases t.testBit x <;> rfl
  have hs : (((2 ^ n.toNat - 1) ^^^ ((2 ^ n.toNat - 1) &&& (o ||| t)) : Nat)) < 2 ^ 62 := Nat.xor_lt_two_pow e2 (Nat.and_lt_two_pow _ e3)
  generalize ((2 ^ n.toNat - 1) ^^^ ((2 ^ n.toNat - 1) &&& (o ||| t)) : Nat) = s at hb hs
  rw [show (16 : Int).toNat = n.toNat + (16 - n.toNat) by omega]
  rw [chooseP_total (nodeP (s : Int)) (fun x => s.testBit x.toNat) _ 0 (fun x h0 h1 => by
    unfold nodeP
    rw [if_pos (by omega), dig_bit s x hs (by omega) (by omega)]
    cases s.testBit x.toNat <;> rfl)]
  simp only [Option.bind_some]
  rw [seg_append, List.filter_append]
  have z : (seg (0 + (n.toNat : Int)) (16 - n.toNat)).filter (fun x => s.testBit x.toNat) = [] := by
    refine List.filter_eq_nil_iff.2 (fun x hx => ?_)
    have := (mem_seg _ _ _).1 hx
    rw [hb, decide_eq_false (show ¬ x.toNat < n.toNat by omega)]
    simp
  rw [z, List.append_nil]
  unfold freeN
  congr 1
  refine List.filter_congr (fun x hx => ?_)
  have := (mem_seg _ _ _).1 hx
  rw [hb, decide_eq_true (show x.toNat < n.toNat by omega)]
  unfold dg
  cases o.testBit x.toNat <;> cases t.testBit x.toNat <;> rfl
end Go.Proofs.Ytbmkhdeeengbmaa.B

namespace Go.Proofs.Ytbmkhdeeengbmaa.B
open Go.RowKit Go.Proofs.Ytbmkhdeeengbmaa.Q Go.Proofs.YtbmkhdeeengbmaaW.PrintWords Go.Proofs.YtbmkhdeeengbmaaW.PrintLast Go.Proofs.YtbmkhdeeengbmaaW.PrintMore

theorem pow3_le (n : Nat) (h : n ≤ 9) : 3 ^ n ≤ 19683 := Nat.pow_le_pow_right (by decide) h
theorem u64_at (n : Int) (h0 : 0 ≤ n) (h1 : n ≤ 1000000) : IntKind.u64.wrap n = n := u64_in n h0 (by omega)
theorem i8_at (x : Int) (h0 : 0 ≤ x) (h1 : x ≤ 100) : IntKind.i8.wrap x = x := by
  simp [IntKind.wrap, IntKind.bits, IntKind.signed]
  omega
theorem bits_dg (a b : Nat) (i : Int) (ha : a < 2 ^ 62) (hb : b < 2 ^ 62) (h0 : 0 ≤ i) (h1 : i ≤ 60) (x : Int) (hx : 0 ≤ x ∧ x ≤ 1000000) :
    wrap64 ((wrap64 ((wrap64 (x * 3)) + (Go.bits .and .i64 (shr .i64 (a : Int) i) 1))) + (wrap64 (2 * (Go.bits .and .i64 (shr .i64 (b : Int) i) 1)))) = x * 3 + (dg a b i.toNat : Int) := by
  rw [dig_bit a i ha h0 h1, dig_bit b i hb h0 h1]
  unfold dg
  cases a.testBit i.toNat <;> cases b.testBit i.toNat <;> (unfold wrap64; simp; omega)
theorem place_l (n : Int) (L : List Int) (a b : Nat) (hn : 1 ≤ n ∧ n ≤ 9) (h : Two n.toNat a b) (d : Nat) : ∀ i : Int, 0 ≤ i → i + d = n →
    Ev (fun k => spec_l07Place.l0 k a b (pl3 a b i.toNat : Int) i n L) (pl3 a b n.toNat : Int) := by
  have hs := h.small (by omega)
  have hq : ∀ n, n ≤ 9 → pl3 a b n < 19683 := fun n hn => Nat.lt_of_lt_of_le (pl3_lt a b h.2.2 n) (pow3_le n hn)
  induction d with
  | zero =>
    intro i h0 h1
    refine evSucc (fun k => by rw [spec_l07Place.l0]) ?_
    obtain rfl : i = n := by omega
    exact evF (by omega) (evS _)
  | succ d ih =>
    intro i h0 h1
    have := hq i.toNat (by omega)
    refine evSucc (fun k => by rw [spec_l07Place.l0]) ?_
    rw [u64_at i h0 (by omega), bits_dg a b i hs.1 hs.2 h0 (by omega) _ (by omega), wrap_in (x := i + 1) (by omega) (by omega)]
    refine evT (by omega) (evT h0 ?_)
    have e : (pl3 a b i.toNat : Int) * 3 + (dg a b i.toNat : Int) = ((pl3 a b (i + 1).toNat : Nat) : Int) := by
      rw [show (i + 1).toNat = i.toNat + 1 by omega, show pl3 a b (i.toNat + 1) = pl3 a b i.toNat * 3 + dg a b i.toNat from rfl]
      omega
    rw [e]
    exact ih (i + 1) (by omega) (by omega)
theorem place_spec (n : Int) (L : List Int) (a b : Nat) (hn : 1 ≤ n ∧ n ≤ 9) (h : Two n.toNat a b) : Ev (fun k => spec_l07Place.f k n L a b) (pl3 a b n.toNat : Int) := by
  unfold spec_l07Place.f
  exact place_l n L a b hn h n.toNat 0 (by omega) (by omega)
theorem table_l (n : Int) (L : List Int) (hn : 1 ≤ n ∧ n ≤ 9) (d : Nat) : ∀ i : Int, 0 ≤ i → i + d = n → Ev (fun k => spec_l07Table.l0 k ((3 ^ i.toNat : Nat) : Int) i n L) (List.replicate (3 ^ n.toNat) 0) := by
  induction d with
  | zero =>
    intro i h0 h1
    obtain rfl : i = n := by omega
    have := pow3_le i.toNat (by omega)
    refine evSucc (fun k => by rw [spec_l07Table.l0]) ?_
    generalize 3 ^ i.toNat = q at this ⊢
    refine evF (by omega) (evT (by omega) (evT (by rw [Int.toNat_natCast]; omega) ?_))
    rw [Int.toNat_natCast]
    exact evS _
  | succ d ih =>
    intro i h0 h1
    have hq := pow3_le i.toNat (by omega)
    have hi := ih (i + 1) (by omega) (by omega)
    rw [show (i + 1).toNat = i.toNat + 1 by omega, Nat.pow_succ] at hi
    refine evSucc (fun k => by rw [spec_l07Table.l0]) ?_
    generalize 3 ^ i.toNat = q at hq hi ⊢
    rw [wrap_in (x := i + 1) (by omega) (by omega), wrap_in (by omega) (by omega)]
    refine evT (by omega) ?_
    rw [show (q : Int) * 3 = ((q * 3 : Nat) : Int) by omega]
    exact hi
theorem table_spec (n : Int) (L : List Int) (hn : 1 ≤ n ∧ n ≤ 9) : Ev (fun k => spec_l07Table.f k n L) (List.replicate (3 ^ n.toNat) 0) := by
  unfold spec_l07Table.f
  exact table_l n L hn n.toNat 0 (by omega) (by omega)
theorem or_dig (a b : Nat) (i : Int) (ha : a < 65536) (hb2 : b < 65536) (h0 : 0 ≤ i) (h1 : i ≤ 16) : Go.bits .and .i64 (shr .i64 (Go.bits .or .i64 a b) i) 1 = 0 ↔ dg a b i.toNat = 0 := by
  have k62 : (2 : Nat) ^ 62 = 4611686018427387904 := by decide
  rw [or_nat a b (by omega) (by omega), dig_bit _ i (Nat.or_lt_two_pow (by omega) (by omega)) h0 (by omega), Nat.testBit_or]
  unfold dg
  cases a.testBit i.toNat <;> cases b.testBit i.toNat <;> simp
section
variable {n : Int} {L : List Int} (hb : boardB n L = true)
include hb
theorem fills_l (s : Int) (d : Nat) : ∀ i : Int, 0 ≤ i → (L.length : Int) = i + d → Ev (fun k => spec_l07Fills.l0 k s i n L) (!(fillF L s d i == 0)) := by
  obtain ⟨b1, b2, b3⟩ := (boardB_iff n L).1 hb
  induction d with
  | zero =>
    intro i h0 h1
    refine evSucc (fun k => by rw [spec_l07Fills.l0]) ?_
    exact evF (by omega) (evS _)
  | succ d ih =>
    intro i h0 h1
    have g := b3 i h0 (by omega)
    refine evSucc (fun k => by rw [spec_l07Fills.l0]) ?_
    refine evT (by omega) (evT h0 ?_)
    simp only [fillF]
    by_cases c : Go.bits .and .i64 (rd L i) s = rd L i
    · refine evT c (evE ?_ (evS _))
      rw [if_pos c]
      simp
      omega
    · rw [wrap_in (x := i + 1) (by omega) (by omega)]
      refine evF c (evE ?_ (ih (i + 1) (by omega) (by omega)))
      rw [if_neg c]
theorem fills_spec (s : Nat) : Ev (fun k => spec_l07Fills.f k n L s) (fl L s) := by
  unfold spec_l07Fills.f fl
  exact fills_l hb s L.length 0 (by omega) (by omega)
end
end Go.Proofs.Ytbmkhdeeengbmaa.B
