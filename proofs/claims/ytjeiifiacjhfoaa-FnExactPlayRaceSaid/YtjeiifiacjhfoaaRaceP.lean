/-
  Races: the plain recursion and its bounds; the program's store-free recursion comes to it. Boards alone, as the facts ask.
  The reference's table of results: places, the table's making, results and best nodes with it. Boards alone, as the facts ask.
  Races from the side of the player who is to take a node: the best nodes, program and reference alike. Boards alone, as the facts ask.
-/
import Derived.Test.YtjeiifiacjhfoaaBoard
import Derived.Test.YtjeiifiacjhfoaaHof
import Derived.Test.YtjeiifiacjhfoaaRace
import Derived.Test.YtjeiifiacjhfoaaQ30
import Derived.Test.YtjeiifiacjhfoaaSpecBehind2
import Derived.Test.YtjeiifiacjhfoaaQ11
import Derived.Test.YtjeiifiacjhfoaaQ33

namespace Go.Proofs.Ytjeiifiacjhfoaa.B
open Go.RowKit Go.Proofs.Ytjeiifiacjhfoaa.Q Go.Proofs.YtjeiifiacjhfoaaW.PrintWords Go.Proofs.YtjeiifiacjhfoaaW.PrintLast Go.Proofs.YtjeiifiacjhfoaaW.PrintMore

theorem pow62 (n m : Nat) (hm : m ≤ n) (hn : n < 62) : (2 : Nat) ^ m < 2 ^ 62 := Nat.pow_lt_pow_right (by decide) (by omega)
theorem dig_bit (a : Nat) (i : Int) (ha : a < 2 ^ 62) (h0 : 0 ≤ i) (h1 : i ≤ 60) : Go.bits .and .i64 (shr .i64 (a : Int) i) 1 = (((a.testBit i.toNat).toNat : Nat) : Int) := by
  have k62 : (2 : Nat) ^ 62 = 4611686018427387904 := by decide
  have r := shr_range (a : Int) i (by omega) (by omega)
  rw [bit01 _ r.1 r.2]
  unfold shr
  rw [show min i.toNat IntKind.i64.bits = i.toNat from Nat.min_eq_left (by have : IntKind.i64.bits = 64 := rfl; omega)]
  have e2 : ((2 : Int) ^ i.toNat) = ((2 ^ i.toNat : Nat) : Int) := by push_cast; rfl
  rw [e2, Nat.testBit_eq_decide_div_mod_eq]
  generalize 2 ^ i.toNat = m
  have : ((a : Int) / (m : Int)) % 2 = ((a / m % 2 : Nat) : Int) := by push_cast; rfl
  rw [this]
  rcases Nat.mod_two_eq_zero_or_one (a / m) with e | e <;> simp [e]
theorem Two.small {n a b : Nat} (h : Two n a b) (hn : n ≤ 61) : a < 2 ^ 62 ∧ b < 2 ^ 62 := ⟨Nat.lt_trans h.1 (pow62 61 n hn (by decide)), Nat.lt_trans h.2.1 (pow62 61 n hn (by decide))⟩
theorem Two.le16 {n a b : Nat} (h : Two n a b) (hn : n ≤ 16) : a < 65536 ∧ b < 65536 := by
  have : (2 : Nat) ^ n ≤ 65536 := Nat.pow_le_pow_right (n := 2) (by decide) hn
  have := h.1
  have := h.2.1
  omega
theorem dg_swap (a b i : Nat) : dg b a i = 0 ↔ dg a b i = 0 := by rw [dg_zero, dg_zero]; exact And.comm
theorem Two.swap {n a b : Nat} (h : Two n a b) : Two n b a := ⟨h.2.1, h.1, fun i => (dg_three b a i).2 (fun c => (dg_three a b i).1 (h.2.2 i) ⟨c.2, c.1⟩)⟩
theorem fr_swap (a b : Nat) : ∀ n, fr b a n = fr a b n
  | 0 => rfl
  | n + 1 => by
    unfold fr
    rw [fr_swap a b n]
    by_cases c : dg a b n = 0
    · rw [if_pos c, if_pos ((dg_swap a b n).2 c)]
    · rw [if_neg c, if_neg (fun e => c ((dg_swap a b n).1 e))]
theorem popF_put (d : Nat) : ∀ (a i : Nat), i < d → a.testBit i = false → popF d (a ||| 2 ^ i) = popF d a + 1 := by
  induction d with
  | zero => intro a i hi; omega
  | succ d ih =>
    intro a i hi h
    simp only [popF, Nat.or_div_two]
    cases i with
    | zero =>
      have h1 : a % 2 = 0 := by
        rw [Nat.testBit_zero] at h
        have := of_decide_eq_false h
        omega
      have h2 : (a ||| 2 ^ 0) % 2 = 1 := Nat.or_mod_two_eq_one.2 (.inr rfl)
      rw [h1, h2, show (2 ^ 0 : Nat) / 2 = 0 by decide, Nat.or_zero]
      omega
    | succ i =>
      have h1 : (a ||| 2 ^ (i + 1)) % 2 = a % 2 := by
        have e := Nat.or_mod_two_eq_one (a := a) (b := 2 ^ (i + 1))
        have z : (2 ^ (i + 1) : Nat) % 2 = 0 := by rw [Nat.pow_succ]; omega
        rcases Nat.mod_two_eq_zero_or_one a with c | c
        · rcases Nat.mod_two_eq_zero_or_one (a ||| 2 ^ (i + 1)) with g | g
          · omega
          · have := e.1 g
            omega
        · have := e.2 (.inl c)
          omega
      have h2 : (2 ^ (i + 1) : Nat) / 2 = 2 ^ i := by rw [Nat.pow_succ]; omega
      rw [h1, h2, ih (a / 2) i (by omega) (by rw [Nat.testBit_div_two]; exact h)]
      omega
/-- A set with one node more. -/
def put (a : Nat) (p : Int) : Nat := a ||| 2 ^ p.toNat
theorem pop_put (a : Nat) (p : Int) (hp : p ≤ 60) (h : a.testBit p.toNat = false) : pop (put a p) = pop a + 1 := popF_put 64 a p.toNat (by omega) h
theorem withN_put (a : Nat) (p : Int) (ha : a < 65536) (h0 : 0 ≤ p) (h1 : p ≤ 16) : withN (a : Int) p = ((put a p : Nat) : Int) := by
  have k62 : (2 : Nat) ^ 62 = 4611686018427387904 := by decide
  unfold withN
  rw [shl_one p h0 (by omega)]
  exact or_nat _ _ (by omega) (Nat.pow_lt_pow_right (by decide) (by omega))
/-- The nodes in none of two sets. -/
def freeN (n : Int) (a b : Nat) : List Int := (seg 0 n.toNat).filter fun p => dg a b p.toNat == 0
theorem mem_freeN {n : Int} {a b : Nat} (p : Int) : p ∈ freeN n a b ↔ 0 ≤ p ∧ p < n.toNat ∧ dg a b p.toNat = 0 := by
  unfold freeN
  rw [List.mem_filter, mem_seg]
  simp only [beq_iff_eq]
  omega
theorem freeN_swap (n : Int) (a b : Nat) : freeN n b a = freeN n a b := by
  unfold freeN
  refine List.filter_congr (fun x _ => ?_)
  rw [Bool.eq_iff_iff, beq_iff_eq, beq_iff_eq]
  exact dg_swap a b x.toNat
theorem freeN_len (n : Int) (a b : Nat) : (freeN n a b).length ≤ n.toNat := filter_length_le_seg _ _ _
theorem freeN_nil {n : Int} {a b : Nat} : freeN n a b = [] ↔ fr a b n.toNat = 0 := by
  constructor
  · intro h
    rcases Nat.eq_zero_or_pos (fr a b n.toNat) with c | c
    · exact c
    · exfalso
      obtain ⟨i, hi, hd⟩ : ∃ i, i < n.toNat ∧ dg a b i = 0 := by
        by_cases e : ∃ i, i < n.toNat ∧ dg a b i = 0
        · exact e
        · exfalso
          have hz : ∀ m, m ≤ n.toNat → fr a b m = 0 := by
            intro m
            induction m with
            | zero => intro _; rfl
            | succ m ih =>
              intro hm
              unfold fr
              rw [ih (by omega), if_neg (fun c => e ⟨m, by omega, c⟩)]
          have := hz n.toNat (by omega)
          omega
      have : (i : Int) ∈ freeN n a b := (mem_freeN _).2 ⟨by omega, by omega, by rw [Int.toNat_natCast]; exact hd⟩
      rw [h] at this
      cases this
  · intro h
    refine List.eq_nil_iff_forall_not_mem.2 (fun p hp => ?_)
    obtain ⟨h0, h1, h2⟩ := (mem_freeN p).1 hp
    exact fr_none a b n.toNat h p.toNat (by omega) h2
theorem put_fr {n : Int} {a b : Nat} {p : Int} (h : p ∈ freeN n a b) : fr (put a p) b n.toNat + 1 = fr a b n.toNat := by
  obtain ⟨h0, h1, h2⟩ := (mem_freeN p).1 h
  exact fr_left n.toNat a b p.toNat (by omega) h2
theorem put_two {n : Int} {a b : Nat} {p : Int} (h : p ∈ freeN n a b) (ht : Two n.toNat a b) : Two n.toNat (put a p) b := by
  obtain ⟨h0, h1, h2⟩ := (mem_freeN p).1 h
  exact ht.left (by omega) h2
/-- Whether a set has all nodes of a line. -/
def fl (L : List Int) (s : Nat) : Bool := !(fillF L s L.length 0 == 0)
def bh (L : List Int) (f : Nat → Nat → Int) (o t : Nat) (p : Int) : Int := if fl L (put o p) = true then 1 else - f t (put o p)
def topR (L : List Int) (f : Nat → Nat → Int) (o t : Nat) (l : List Int) (b : Int) : Int := l.foldl (fun b p => mx b (bh L f o t p)) b
def rcN (n : Int) (L : List Int) : Nat → Nat → Nat → Int
  | 0, _, _ => 0
  | d + 1, o, t => if freeN n o t = [] then 0 else topR L (rcN n L d) o t (freeN n o t) (-1)
/-- The result of a race for the player who is to take a node. -/
def rc (n : Int) (L : List Int) (o t : Nat) : Int := rcN n L (fr o t n.toNat + 1) o t
theorem topR_congr {L : List Int} {f g : Nat → Nat → Int} {o t : Nat} (l : List Int) : (∀ p ∈ l, f t (put o p) = g t (put o p)) → ∀ b, topR L f o t l b = topR L g o t l b := by
  induction l with
  | nil => intro h b; rfl
  | cons x l ih =>
    intro h b
    have e : bh L f o t x = bh L g o t x := by unfold bh; rw [h x List.mem_cons_self]
    simp only [topR, List.foldl_cons] at ih ⊢
    rw [e]
    exact ih (fun y hy => h y (List.mem_cons_of_mem _ hy)) _
theorem rc_eq (n : Int) (L : List Int) (o t : Nat) : rc n L o t = if freeN n o t = [] then 0 else topR L (rc n L) o t (freeN n o t) (-1) := by
  unfold rc
  rw [rcN]
  by_cases c : freeN n o t = []
  · rw [if_pos c, if_pos c]
  · rw [if_neg c, if_neg c]
    refine topR_congr _ (fun p hp => ?_) _
    have := put_fr hp
    rw [fr_swap (put o p) t, this]
theorem topR_range {L : List Int} {f : Nat → Nat → Int} {o t : Nat} (l : List Int) : (∀ p ∈ l, -1 ≤ f t (put o p) ∧ f t (put o p) ≤ 1) → ∀ b, -1 ≤ b ∧ b ≤ 1 → -1 ≤ topR L f o t l b ∧ topR L f o t l b ≤ 1 := by
  induction l with
  | nil => intro h b hb; exact hb
  | cons x l ih =>
    intro h b hb
    have hx := h x List.mem_cons_self
    simp only [topR, List.foldl_cons] at ih ⊢
    refine ih (fun y hy => h y (List.mem_cons_of_mem _ hy)) _ ?_
    unfold bh
    simp only [mx]
    split <;> split <;> omega
theorem rc_range (n : Int) (L : List Int) (m : Nat) : ∀ o t : Nat, fr o t n.toNat < m → -1 ≤ rc n L o t ∧ rc n L o t ≤ 1 := by
  induction m with
  | zero => intro o t h; omega
  | succ m ih =>
    intro o t h
    rw [rc_eq]
    split
    · omega
    · refine topR_range _ (fun p hp => ?_) _ (by omega)
      have := put_fr hp
      exact ih t (put o p) (by rw [fr_swap (put o p) t]; omega)
theorem rc_small (n : Int) (L : List Int) (o t : Nat) : -1 ≤ rc n L o t ∧ rc n L o t ≤ 1 := rc_range n L (fr o t n.toNat + 1) o t (by omega)
theorem bh_small (n : Int) (L : List Int) (o t : Nat) (p : Int) : -1 ≤ bh L (rc n L) o t p ∧ bh L (rc n L) o t p ≤ 1 := by
  have := rc_small n L t (put o p)
  unfold bh
  split <;> omega
theorem rc_nil {n : Int} {L : List Int} {o t : Nat} (h : freeN n o t = []) : rc n L o t = 0 := by rw [rc_eq, if_pos h]
theorem maxL_ev (f : Nat → Int → Option Int) (g : Int → Int) (l : List Int) : (∀ x ∈ l, Ev (fun k => f k x) (g x)) → ∀ b, Ev (fun k => maxL (f k) l b) (l.foldl (fun b e => mx b (g e)) b) := by
  induction l with
  | nil => intro h b; exact evS _
  | cons x l ih =>
    intro h b
    simp only [maxL, List.foldl_cons]
    exact evB (h x List.mem_cons_self) (ih (fun y hy => h y (List.mem_cons_of_mem _ hy)) _)
theorem seg_append (a b : Nat) : ∀ i : Int, seg i (a + b) = seg i a ++ seg (i + a) b := by
  induction a with
  | zero => intro i; simp [seg]
  | succ a ih =>
    intro i
    rw [show a + 1 + b = (a + b) + 1 by omega]
    simp only [seg, ih, List.cons_append]
    rw [show i + 1 + (a : Int) = i + ((a + 1 : Nat) : Int) by omega]
theorem free_impl (n : Int) (L : List Int) (hn : 1 ≤ n ∧ n ≤ 16) (o t : Nat) (h : Two n.toNat o t) : impl_Board_free.f n L o t = some (freeN n o t) := by
  have k62 : (2 : Nat) ^ 62 = 4611686018427387904 := by decide
  obtain ⟨ho, ht⟩ := h.le16 (by omega)
  obtain ⟨f1, f2, f3, _, _⟩ := full_shl n hn
  have e1 : full n = ((2 ^ n.toNat - 1 : Nat) : Int) := by
    have := Nat.one_le_two_pow (n := n.toNat)
    unfold full
    omega
  unfold impl_Board_free.f impl_nodesOf.f choose_nodesOf.f
  rw [if_pos (by omega), if_pos (by omega), f1]
  have e2 : (2 ^ n.toNat - 1 : Nat) < 2 ^ 62 := by omega
  have e3 : o ||| t < 2 ^ 62 := Nat.or_lt_two_pow (by omega) (by omega)
  rw [e1, or_nat o t (by omega) (by omega), andNot_nat _ _ e2 e3]
  have hb : ∀ x, (((2 ^ n.toNat - 1) ^^^ ((2 ^ n.toNat - 1) &&& (o ||| t)) : Nat)).testBit x = (decide (x < n.toNat) && !(o.testBit x || t.testBit x)) := by
    intro x
    rw [Nat.testBit_xor, Nat.testBit_and, Nat.testBit_or, Nat.testBit_two_pow_sub_one]
    cases decide (x < n.toNat) <;> cases o.testBit x <;> cases t.testBit x <;> rfl
  have hs : (((2 ^ n.toNat - 1) ^^^ ((2 ^ n.toNat - 1) &&& (o ||| t)) : Nat)) < 2 ^ 62 := Nat.xor_lt_two_pow e2 (Nat.and_lt_two_pow _ e3)
  generalize ((2 ^ n.toNat - 1) ^^^ ((2 ^ n.toNat - 1) &&& (o ||| t)) : Nat) = s at hb hs
  rw [show (16 : Int).toNat = n.toNat + (16 - n.toNat) by omega]
  rw [chooseP_total (nodeP (s : Int)) (fun x => s.testBit x.toNat) _ 0 (fun x h0 h1 => by
    unfold nodeP
    rw [if_pos (by omega), dig_bit s x hs (by omega) (by omega)]
    cases s.testBit x.toNat <;> rfl)]
  simp only [Option.bind_some]
  rw [seg_append, List.filter_append]
  have z : (seg (0 + (n.toNat : Int)) (16 - n.toNat)).filter (fun x => s.testBit x.toNat) = [] := by
    refine List.filter_eq_nil_iff.2 (fun x hx => ?_)
    have := (mem_seg _ _ _).1 hx
    rw [hb, decide_eq_false (show ¬ x.toNat < n.toNat by omega)]
    simp
  rw [z, List.append_nil]
  unfold freeN
  congr 1
  refine List.filter_congr (fun x hx => ?_)
  have := (mem_seg _ _ _).1 hx
  rw [hb, decide_eq_true (show x.toNat < n.toNat by omega)]
  unfold dg
  cases o.testBit x.toNat <;> cases t.testBit x.toNat <;> rfl
section
variable {n : Int} {L : List Int} (hb : boardB n L = true)
include hb
theorem behind_impl (o t : Nat) (h : Two n.toNat o t) (p : Int) (hp : p ∈ freeN n o t) (S : Nat → Int → Int → Option Int) (hS : freeN n t (put o p) ≠ [] → Ev (fun k => S k (t : Int) (put o p : Nat)) (rc n L t (put o p))) :
    Ev (fun k => behindF (S k) k n L o t p) (bh L (rc n L) o t p) := by
  obtain ⟨b1, b2, b3⟩ := (boardB_iff n L).1 hb
  obtain ⟨h0, h1, h2⟩ := (mem_freeN p).1 hp
  have ht := put_two hp h
  obtain ⟨ho, htt⟩ := h.le16 (by omega)
  obtain ⟨ho2, _⟩ := ht.le16 (by omega)
  have hr := rc_small n L t (put o p)
  unfold behindF
  rw [withN_put o p ho h0 (by omega)]
  refine evT h0 (evB (filled_impl n L _ hb (by omega) (by omega)) ?_)
  unfold bh fl
  by_cases c : fillF L (put o p : Nat) L.length 0 = 0
  · refine evT c (evG (free_impl n L b1 (put o p) t ht) ?_)
    rw [freeN_swap n t (put o p)]
    by_cases e : freeN n t (put o p) = []
    · refine evT (by rw [e]; rfl) (evE ?_ (evS _))
      rw [rc_nil e]
      simp [c]
    · refine evF (fun c => e (List.eq_nil_of_length_eq_zero c)) (evB (hS e) (evE ?_ (evS _)))
      rw [wrap_in (by omega) (by omega)]
      simp [c]
  · refine evF c (evE ?_ (evS _))
    simp [c]
theorem race_impl (d : Nat) : ∀ o t : Nat, Two n.toNat o t → freeN n o t ≠ [] → fr o t n.toNat < d → Ev (fun k => raceF k n L d o t) (rc n L o t) := by
  obtain ⟨b1, b2, b3⟩ := (boardB_iff n L).1 hb
  induction d with
  | zero => intro o t _ _ hd; omega
  | succ d ih =>
    intro o t h hne hd
    obtain ⟨ho, ht⟩ := h.le16 (by omega)
    have hl := freeN_len n o t
    simp only [raceF]
    refine evT (by unfold okR; omega) (evG (free_impl n L b1 o t h) (evT (by omega) ?_))
    rw [rc_eq, if_neg hne]
    unfold topR
    refine maxL_ev _ (bh L (rc n L) o t) _ (fun p hp => ?_) _
    have hf := put_fr hp
    have h2 := put_two hp h
    exact behind_impl hb o t h p hp (fun k => raceF k n L d) (fun hne2 => ih t (put o p) h2.swap hne2 (by rw [fr_swap (put o p) t]; omega))
end
end Go.Proofs.Ytjeiifiacjhfoaa.B


namespace Go.Proofs.Ytjeiifiacjhfoaa.B
open Go.RowKit Go.Proofs.Ytjeiifiacjhfoaa.Q Go.Proofs.YtjeiifiacjhfoaaW.PrintWords Go.Proofs.YtjeiifiacjhfoaaW.PrintLast Go.Proofs.YtjeiifiacjhfoaaW.PrintMore

theorem pow3_le (n : Nat) (h : n ≤ 9) : 3 ^ n ≤ 19683 := Nat.pow_le_pow_right (by decide) h
theorem u64_at (n : Int) (h0 : 0 ≤ n) (h1 : n ≤ 1000000) : IntKind.u64.wrap n = n := u64_in n h0 (by omega)
theorem i8_at (x : Int) (h0 : 0 ≤ x) (h1 : x ≤ 100) : IntKind.i8.wrap x = x := by
  simp [IntKind.wrap, IntKind.bits, IntKind.signed]
  omega
theorem bits_dg (a b : Nat) (i : Int) (ha : a < 2 ^ 62) (hb : b < 2 ^ 62) (h0 : 0 ≤ i) (h1 : i ≤ 60) (x : Int) (hx : 0 ≤ x ∧ x ≤ 1000000) :
    wrap64 ((wrap64 ((wrap64 (x * 3)) + (Go.bits .and .i64 (shr .i64 (a : Int) i) 1))) + (wrap64 (2 * (Go.bits .and .i64 (shr .i64 (b : Int) i) 1)))) = x * 3 + (dg a b i.toNat : Int) := by
  rw [dig_bit a i ha h0 h1, dig_bit b i hb h0 h1]
  unfold dg
  cases a.testBit i.toNat <;> cases b.testBit i.toNat <;> (unfold wrap64; simp; omega)
theorem place_l (n : Int) (L : List Int) (a b : Nat) (hn : 1 ≤ n ∧ n ≤ 9) (h : Two n.toNat a b) (d : Nat) : ∀ i : Int, 0 ≤ i → i + d = n →
    Ev (fun k => spec_l07Place.l0 k a b (pl3 a b i.toNat : Int) i n L) (pl3 a b n.toNat : Int) := by
  have hs := h.small (by omega)
  have hq : ∀ n, n ≤ 9 → pl3 a b n < 19683 := fun n hn => Nat.lt_of_lt_of_le (pl3_lt a b h.2.2 n) (pow3_le n hn)
  induction d with
  | zero =>
    intro i h0 h1
    refine evSucc (fun k => by rw [spec_l07Place.l0]) ?_
    obtain rfl : i = n := by omega
    exact evF (by omega) (evS _)
  | succ d ih =>
    intro i h0 h1
    have := hq i.toNat (by omega)
    refine evSucc (fun k => by rw [spec_l07Place.l0]) ?_
    rw [u64_at i h0 (by omega), bits_dg a b i hs.1 hs.2 h0 (by omega) _ (by omega), wrap_in (x := i + 1) (by omega) (by omega)]
    refine evT (by omega) (evT h0 ?_)
    have e : (pl3 a b i.toNat : Int) * 3 + (dg a b i.toNat : Int) = ((pl3 a b (i + 1).toNat : Nat) : Int) := by
      rw [show (i + 1).toNat = i.toNat + 1 by omega, show pl3 a b (i.toNat + 1) = pl3 a b i.toNat * 3 + dg a b i.toNat from rfl]
      omega
    rw [e]
    exact ih (i + 1) (by omega) (by omega)
theorem place_spec (n : Int) (L : List Int) (a b : Nat) (hn : 1 ≤ n ∧ n ≤ 9) (h : Two n.toNat a b) : Ev (fun k => spec_l07Place.f k n L a b) (pl3 a b n.toNat : Int) := by
  unfold spec_l07Place.f
  exact place_l n L a b hn h n.toNat 0 (by omega) (by omega)
theorem table_l (n : Int) (L : List Int) (hn : 1 ≤ n ∧ n ≤ 9) (d : Nat) : ∀ i : Int, 0 ≤ i → i + d = n → Ev (fun k => spec_l07Table.l0 k ((3 ^ i.toNat : Nat) : Int) i n L) (List.replicate (3 ^ n.toNat) 0) := by
  induction d with
  | zero =>
    intro i h0 h1
    obtain rfl : i = n := by omega
    have := pow3_le i.toNat (by omega)
    refine evSucc (fun k => by rw [spec_l07Table.l0]) ?_
    generalize 3 ^ i.toNat = q at this ⊢
    refine evF (by omega) (evT (by omega) (evT (by rw [Int.toNat_natCast]; omega) ?_))
    rw [Int.toNat_natCast]
    exact evS _
  | succ d ih =>
    intro i h0 h1
    have hq := pow3_le i.toNat (by omega)
    have hi := ih (i + 1) (by omega) (by omega)
    rw [show (i + 1).toNat = i.toNat + 1 by omega, Nat.pow_succ] at hi
    refine evSucc (fun k => by rw [spec_l07Table.l0]) ?_
    generalize 3 ^ i.toNat = q at hq hi ⊢
    rw [wrap_in (x := i + 1) (by omega) (by omega), wrap_in (by omega) (by omega)]
    refine evT (by omega) ?_
    rw [show (q : Int) * 3 = ((q * 3 : Nat) : Int) by omega]
    exact hi
theorem table_spec (n : Int) (L : List Int) (hn : 1 ≤ n ∧ n ≤ 9) : Ev (fun k => spec_l07Table.f k n L) (List.replicate (3 ^ n.toNat) 0) := by
  unfold spec_l07Table.f
  exact table_l n L hn n.toNat 0 (by omega) (by omega)
/-- The states of a race's table, and their places. -/
def okS (n : Int) (s : Nat × Nat) : Prop := Two n.toNat s.1 s.2 ∧ (pop s.1 = pop s.2 ∨ pop s.1 = pop s.2 + 1)
def plS (n : Int) (s : Nat × Nat) : Nat := pl3 s.1 s.2 n.toNat
theorem plS_inj (n : Int) (s s' : Nat × Nat) (h : okS n s) (h' : okS n s') (e : plS n s = plS n s') : s = s' := by
  obtain ⟨a, b⟩ := s
  obtain ⟨c, d⟩ := s'
  obtain ⟨rfl, rfl⟩ := pl3_inj h.1 h'.1 e
  rfl
theorem plS_lt (n : Int) (s : Nat × Nat) (h : okS n s) : plS n s < 3 ^ n.toNat := pl3_lt s.1 s.2 h.1.2.2 n.toNat
/-- The result of a state for the player who is to take a node, and behind a node. -/
def rv (n : Int) (L : List Int) (a b : Nat) : Int := if pop a = pop b then rc n L a b else rc n L b a
def bs (n : Int) (L : List Int) (a b : Nat) (p : Int) : Int := if pop a = pop b then bh L (rc n L) a b p else bh L (rc n L) b a p
theorem rv_small (n : Int) (L : List Int) (a b : Nat) : -1 ≤ rv n L a b ∧ rv n L a b ≤ 1 := by
  unfold rv
  split
  · exact rc_small n L a b
  · exact rc_small n L b a
theorem bs_small (n : Int) (L : List Int) (a b : Nat) (p : Int) : -1 ≤ bs n L a b p ∧ bs n L a b p ≤ 1 := by
  unfold bs
  split
  · exact bh_small n L a b p
  · exact bh_small n L b a p
theorem rv_eq (n : Int) (L : List Int) (a b : Nat) : rv n L a b = if freeN n a b = [] then 0 else (freeN n a b).foldl (fun m p => mx m (bs n L a b p)) (-1) := by
  unfold rv bs
  by_cases c : pop a = pop b
  · simp only [if_pos c]
    rw [rc_eq]
    rfl
  · simp only [if_neg c]
    rw [rc_eq, freeN_swap n a b]
    rfl
def TabR (n : Int) (L : List Int) (t : List Int) : Prop := Tab (okS n) (plS n) (fun s => rv n L s.1 s.2 + 2) (3 ^ n.toNat) t
theorem TabR.new (n : Int) (L : List Int) : TabR n L (List.replicate (3 ^ n.toNat) 0) := Tab.new (fun s h => plS_lt n s h)
theorem TabR.put {n : Int} {L t : List Int} (h : TabR n L t) (a b : Nat) (hs : okS n (a, b)) (v : Int) (hv : v = rv n L a b + 2) : TabR n L (t.set (pl3 a b n.toNat) v) := by
  rw [hv]
  exact Tab.set h (plS_inj n) (a, b) hs
theorem TabR.at {n : Int} {L t : List Int} (h : TabR n L t) (a b : Nat) (hs : okS n (a, b)) : (pl3 a b n.toNat : Int) < t.length ∧ (rd t (pl3 a b n.toNat : Int) = 0 ∨ rd t (pl3 a b n.toNat : Int) = rv n L a b + 2) := by
  obtain ⟨h1, h2⟩ := h.2 _ hs
  refine ⟨by rw [h.1]; exact_mod_cast h1, ?_⟩
  unfold rd
  rw [Int.toNat_natCast]
  exact h2
theorem okS.left {n : Int} {a b : Nat} (h : okS n (a, b)) (hn : n ≤ 16) (L : List Int) (p : Int) (hp : p ∈ freeN n a b) (e : pop a = pop b) : okS n (B.put a p, b) ∧ rv n L (B.put a p) b = rc n L b (B.put a p) ∧ fr (B.put a p) b n.toNat < fr a b n.toNat := by
  obtain ⟨h0, h1, h2⟩ := (mem_freeN p).1 hp
  have hq := pop_put a p (by omega) ((dg_zero a b p.toNat).1 h2).1
  have hf := put_fr hp
  refine ⟨⟨put_two hp h.1, .inr ?_⟩, ?_, by omega⟩
  · show pop (B.put a p) = pop b + 1
    omega
  · unfold rv
    rw [if_neg (by omega)]
theorem okS.right {n : Int} {a b : Nat} (h : okS n (a, b)) (hn : n ≤ 16) (L : List Int) (p : Int) (hp : p ∈ freeN n a b) (e : ¬ pop a = pop b) : okS n (a, B.put b p) ∧ rv n L a (B.put b p) = rc n L a (B.put b p) ∧ fr a (B.put b p) n.toNat < fr a b n.toNat := by
  obtain ⟨h0, h1, h2⟩ := (mem_freeN p).1 hp
  have hq := pop_put b p (by omega) ((dg_zero a b p.toNat).1 h2).2
  have hp2 : p ∈ freeN n b a := by rw [freeN_swap]; exact hp
  have hf := put_fr hp2
  rw [fr_swap a (B.put b p), fr_swap a b] at hf
  have h3 : pop a = pop b + 1 := by
    rcases h.2 with c | c
    · exact absurd c e
    · exact c
  refine ⟨⟨(put_two hp2 h.1.swap).swap, .inl ?_⟩, ?_, by omega⟩
  · show pop a = pop (B.put b p)
    omega
  · unfold rv
    rw [if_pos (by omega)]
section
variable {n : Int} {L : List Int} (hb : boardB n L = true)
include hb
theorem fills_l (s : Int) (d : Nat) : ∀ i : Int, 0 ≤ i → (L.length : Int) = i + d → Ev (fun k => spec_l07Fills.l0 k s i n L) (!(fillF L s d i == 0)) := by
  obtain ⟨b1, b2, b3⟩ := (boardB_iff n L).1 hb
  induction d with
  | zero =>
    intro i h0 h1
    refine evSucc (fun k => by rw [spec_l07Fills.l0]) ?_
    exact evF (by omega) (evS _)
  | succ d ih =>
    intro i h0 h1
    have g := b3 i h0 (by omega)
    refine evSucc (fun k => by rw [spec_l07Fills.l0]) ?_
    refine evT (by omega) (evT h0 ?_)
    simp only [fillF]
    by_cases c : Go.bits .and .i64 (rd L i) s = rd L i
    · refine evT c (evE ?_ (evS _))
      rw [if_pos c]
      simp
      omega
    · rw [wrap_in (x := i + 1) (by omega) (by omega)]
      refine evF c (evE ?_ (ih (i + 1) (by omega) (by omega)))
      rw [if_neg c]
theorem fills_spec (s : Nat) : Ev (fun k => spec_l07Fills.f k n L s) (fl L s) := by
  unfold spec_l07Fills.f fl
  exact fills_l hb s L.length 0 (by omega) (by omega)
variable (hn : n ≤ 9)
include hn
theorem behind_spec (S : Nat → Int → List Int → Int → Int → List Int → Option (Int × List Int)) (a b : Nat) (h : okS n (a, b)) (p : Int) (hp : p ∈ freeN n a b) (T : List Int) (hT : TabR n L T)
    (ih : ∀ a' b' : Nat, okS n (a', b') → fr a' b' n.toNat < fr a b n.toNat → ∃ T', Ev (fun k => S k n L a' b' T) (rv n L a' b', T') ∧ TabR n L T') :
    ∃ T', Ev (fun k => spec_l07Behind.F (S k) k n L a b p T) (bs n L a b p, T') ∧ TabR n L T' := by
  obtain ⟨b1, b2, b3⟩ := (boardB_iff n L).1 hb
  obtain ⟨h0, h1, h2⟩ := (mem_freeN p).1 hp
  obtain ⟨ha16, hb16⟩ := h.1.le16 (by omega)
  have o1 := ones_eq (a : Int) (by omega) (by omega)
  have o2 := ones_eq (b : Int) (by omega) (by omega)
  unfold popI at o1 o2
  rw [Int.toNat_natCast] at o1 o2
  have w1 := withN_put a p (by omega) h0 (by omega)
  have w2 := withN_put b p (by omega) h0 (by omega)
  unfold withN at w1 w2
  unfold spec_l07Behind.F
  rw [u64_at p h0 (by omega), w1, w2]
  by_cases e : pop a = pop b
  · obtain ⟨k1, k2, k3⟩ := h.left (by omega) L p hp e
    by_cases c : fl L (B.put a p) = true
    · refine ⟨T, evT h0 (evB o1 (evB o2 (evT (by omega) (evB (fills_spec hb (B.put a p)) (evT c (evE ?_ (evS _))))))), hT⟩
      simp [bs, bh, e, c]
    · obtain ⟨T', h3, h4⟩ := ih _ _ k1 k3
      have hr := rc_small n L b (B.put a p)
      rw [k2] at h3
      refine ⟨T', evT h0 (evB o1 (evB o2 (evT (by omega) (evB (fills_spec hb (B.put a p)) (evF c (evB h3 (evE ?_ (evS _)))))))), h4⟩
      simp only [bs, bh]
      rw [if_pos e, if_neg c, wrap_in (by omega) (by omega)]
  · obtain ⟨k1, k2, k3⟩ := h.right (by omega) L p hp e
    by_cases c : fl L (B.put b p) = true
    · refine ⟨T, evT h0 (evB o1 (evB o2 (evF (by omega) (evB (fills_spec hb (B.put b p)) (evT c (evE ?_ (evS _))))))), hT⟩
      simp [bs, bh, e, c]
    · obtain ⟨T', h3, h4⟩ := ih _ _ k1 k3
      have hr := rc_small n L a (B.put b p)
      rw [k2] at h3
      refine ⟨T', evT h0 (evB o1 (evB o2 (evF (by omega) (evB (fills_spec hb (B.put b p)) (evF c (evB h3 (evE ?_ (evS _)))))))), h4⟩
      simp only [bs, bh]
      rw [if_neg e, if_neg c, wrap_in (by omega) (by omega)]
omit hb hn in
theorem or_dig (a b : Nat) (i : Int) (ha : a < 65536) (hb2 : b < 65536) (h0 : 0 ≤ i) (h1 : i ≤ 16) : Go.bits .and .i64 (shr .i64 (Go.bits .or .i64 a b) i) 1 = 0 ↔ dg a b i.toNat = 0 := by
  have k62 : (2 : Nat) ^ 62 = 4611686018427387904 := by decide
  rw [or_nat a b (by omega) (by omega), dig_bit _ i (Nat.or_lt_two_pow (by omega) (by omega)) h0 (by omega), Nat.testBit_or]
  unfold dg
  cases a.testBit i.toNat <;> cases b.testBit i.toNat <;> simp
omit hb in
theorem free_len_ok : n.toNat ≤ 9 := by omega
theorem race_l (a b : Nat) (h : okS n (a, b)) (ihb : ∀ p ∈ freeN n a b, ∀ T, TabR n L T → ∃ T', Ev (fun k => spec_l07Behind.F (spec_l07Race.f k) k n L a b p T) (bs n L a b p, T') ∧ TabR n L T') (d : Nat) :
    ∀ (i : Int) (T : List Int) (best : Int) (free : Bool), 0 ≤ i → i + d = n → TabR n L T →
      (if free = true ∨ (seg i d).filter (fun p => dg a b p.toNat == 0) ≠ [] then ((seg i d).filter (fun p => dg a b p.toNat == 0)).foldl (fun m p => mx m (bs n L a b p)) best else 0) = rv n L a b →
      ∃ T', Ev (fun k => spec_l07Race.l0 k a b T (pl3 a b n.toNat : Int) best free i n L) (rv n L a b, T') ∧ TabR n L T' := by
  obtain ⟨b1, b2, b3⟩ := (boardB_iff n L).1 hb
  obtain ⟨ha16, hb16⟩ := h.1.le16 (by omega)
  have hrv := rv_small n L a b
  induction d with
  | zero =>
    intro i T best free h0 h1 hT hv
    obtain ⟨t1, _⟩ := hT.at a b h
    simp only [seg, List.filter_nil, ne_eq, not_true_eq_false, or_false, List.foldl_nil] at hv
    refine ⟨T.set (pl3 a b n.toNat) (rv n L a b + 2), ?_, hT.put a b h _ rfl⟩
    refine evSucc (fun k => by rw [spec_l07Race.l0]) ?_
    cases free with
    | true =>
      rw [if_pos rfl] at hv
      rw [hv]
      refine evF (by omega) ?_
      refine evT rfl ?_
      refine evT (by omega) ?_
      refine evT t1 ?_
      rw [Int.toNat_natCast, wrap_in (by omega) (by omega), i8_at _ (by omega) (by omega)]
      exact evS _
    | false =>
      rw [if_neg (by simp)] at hv
      refine evF (by omega) ?_
      refine evF (by simp) ?_
      refine evT (by omega) ?_
      refine evT t1 ?_
      rw [Int.toNat_natCast, ← hv]
      exact evS _
  | succ d ih =>
    intro i T best free h0 h1 hT hv
    have hw : wrap64 (i + 1) = i + 1 := wrap_in (by omega) (by omega)
    have hor := or_dig a b i ha16 hb16 h0 (by omega)
    by_cases c : dg a b i.toNat = 0
    · have hmem : i ∈ freeN n a b := (mem_freeN i).2 ⟨h0, by omega, c⟩
      obtain ⟨T1, h2, h3⟩ := ihb i hmem T hT
      have e : (seg i (d + 1)).filter (fun p => dg a b p.toNat == 0) = i :: (seg (i + 1) d).filter (fun p => dg a b p.toNat == 0) := by simp [seg, c]
      rw [e, if_pos (.inr (by simp)), List.foldl_cons] at hv
      obtain ⟨T', h4, h5⟩ := ih (i + 1) T1 (mx best (bs n L a b i)) true (by omega) (by omega) h3 (by rw [if_pos (.inl rfl)]; exact hv)
      refine ⟨T', ?_, h5⟩
      refine evSucc (fun k => by rw [spec_l07Race.l0]) ?_
      rw [u64_at i h0 (by omega), hw]
      clear hv
      generalize bs n L a b i = v at h2 h4
      exact evT (by omega) (evT h0 (evT (hor.2 c) (evB h2 h4)))
    · have e : (seg i (d + 1)).filter (fun p => dg a b p.toNat == 0) = (seg (i + 1) d).filter (fun p => dg a b p.toNat == 0) := by simp [seg, c]
      rw [e] at hv
      obtain ⟨T', h4, h5⟩ := ih (i + 1) T best free (by omega) (by omega) hT hv
      refine ⟨T', ?_, h5⟩
      refine evSucc (fun k => by rw [spec_l07Race.l0]) ?_
      rw [u64_at i h0 (by omega), hw]
      exact evT (by omega) (evT h0 (evF (fun g => c (hor.1 g)) h4))
theorem race_spec (m : Nat) : ∀ (a b : Nat) (T : List Int), okS n (a, b) → fr a b n.toNat < m → TabR n L T → ∃ T', Ev (fun k => spec_l07Race.f k n L a b T) (rv n L a b, T') ∧ TabR n L T' := by
  obtain ⟨b1, b2, b3⟩ := (boardB_iff n L).1 hb
  induction m with
  | zero => intro a b T h hm; omega
  | succ m ihm =>
    intro a b T h hm hT
    obtain ⟨h1, h2⟩ := hT.at a b h
    have hpl := place_spec n L a b ⟨by omega, hn⟩ h.1
    have hr := rv_small n L a b
    by_cases hk : rd T (pl3 a b n.toNat : Int) > 0
    · refine ⟨T, ?_, hT⟩
      refine evSucc (fun k => by rw [spec_l07Race.f]) ?_
      refine evB hpl (evT (by omega) (evT h1 (evT hk (evE ?_ (evS _)))))
      have hv : rd T (pl3 a b n.toNat : Int) = rv n L a b + 2 := by
        rcases h2 with h2 | h2
        · exact absurd h2 (by omega)
        · exact h2
      rw [hv, wrap_in (x := rv n L a b + 2) (by omega) (by omega), wrap_in (by omega) (by omega), show rv n L a b + 2 - 2 = rv n L a b by omega]
    · obtain ⟨T', h3, h4⟩ := race_l hb hn a b h (fun p hp T hT => behind_spec hb hn spec_l07Race.f a b h p hp T hT (fun a' b' h' hlt => ihm a' b' T h' (by omega) hT)) n.toNat 0 T (-1) false (by omega) (by omega) hT (by
        rw [rv_eq]
        unfold freeN
        by_cases e : (seg 0 n.toNat).filter (fun p => dg a b p.toNat == 0) = []
        · rw [if_neg (by simp [e]), if_pos e]
        · rw [if_pos (.inr e), if_neg e])
      refine ⟨T', ?_, h4⟩
      refine evSucc (fun k => by rw [spec_l07Race.f]) ?_
      exact evB hpl (evT (by omega) (evT h1 (evF hk h3)))
/-- The nodes that keep the result. -/
def keepN (n : Int) (L : List Int) (a b : Nat) (l : List Int) : List Int := l.filter fun p => bs n L a b p == rv n L a b
omit hb hn in
theorem keepN_cons (a b : Nat) (p : Int) (l : List Int) : keepN n L a b (p :: l) = if bs n L a b p = rv n L a b then p :: keepN n L a b l else keepN n L a b l := by
  unfold keepN
  rw [List.filter_cons]
  simp
theorem best_l (a b : Nat) (h : okS n (a, b)) (d : Nat) : ∀ (i : Int) (T acc : List Int), 0 ≤ i → i + d = n → (acc.length : Int) ≤ i → TabR n L T →
    ∃ T', Ev (fun k => spec_l07Best.l0 k a b T (rv n L a b) acc i n L) (acc ++ keepN n L a b ((seg i d).filter (fun p => dg a b p.toNat == 0)), T') ∧ TabR n L T' := by
  obtain ⟨b1, b2, b3⟩ := (boardB_iff n L).1 hb
  obtain ⟨ha16, hb16⟩ := h.1.le16 (by omega)
  induction d with
  | zero =>
    intro i T acc h0 h1 hacc hT
    refine ⟨T, ?_, hT⟩
    refine evSucc (fun k => by rw [spec_l07Best.l0]) ?_
    exact evF (by omega) (evE (by simp [seg, keepN]) (evS _))
  | succ d ih =>
    intro i T acc h0 h1 hacc hT
    have hw : wrap64 (i + 1) = i + 1 := wrap_in (by omega) (by omega)
    have hor := or_dig a b i ha16 hb16 h0 (by omega)
    by_cases c : dg a b i.toNat = 0
    · have hmem : i ∈ freeN n a b := (mem_freeN i).2 ⟨h0, by omega, c⟩
      have e : (seg i (d + 1)).filter (fun p => dg a b p.toNat == 0) = i :: (seg (i + 1) d).filter (fun p => dg a b p.toNat == 0) := by simp [seg, c]
      rw [e, keepN_cons]
      obtain ⟨T1, h2, h3⟩ := behind_spec hb hn spec_l07Race.f a b h i hmem T hT (fun a' b' h' _ => race_spec hb hn (fr a' b' n.toNat + 1) a' b' T h' (by omega) hT)
      have h2' : Ev (fun k => spec_l07Behind.f k n L a b i T) (bs n L a b i, T1) := h2
      by_cases g : bs n L a b i = rv n L a b
      · rw [if_pos g]
        obtain ⟨T', h4, h5⟩ := ih (i + 1) T1 (acc ++ [i]) (by omega) (by omega) (by simp; omega) h3
        refine ⟨T', ?_, h5⟩
        refine evSucc (fun k => by rw [spec_l07Best.l0]) ?_
        rw [u64_at i h0 (by omega), hw]
        generalize rv n L a b = r at g h4 ⊢
        generalize bs n L a b i = v at h2' g
        exact evT (by omega) (evT h0 (evT (hor.2 c) (evB h2' (evT g (evT (by omega) (evE (by simp) h4))))))
      · rw [if_neg g]
        obtain ⟨T', h4, h5⟩ := ih (i + 1) T1 acc (by omega) (by omega) (by omega) h3
        refine ⟨T', ?_, h5⟩
        refine evSucc (fun k => by rw [spec_l07Best.l0]) ?_
        rw [u64_at i h0 (by omega), hw]
        generalize rv n L a b = r at g h4 ⊢
        generalize bs n L a b i = v at h2' g
        exact evT (by omega) (evT h0 (evT (hor.2 c) (evB h2' (evF g h4))))
    · have e : (seg i (d + 1)).filter (fun p => dg a b p.toNat == 0) = (seg (i + 1) d).filter (fun p => dg a b p.toNat == 0) := by simp [seg, c]
      rw [e]
      obtain ⟨T', h4, h5⟩ := ih (i + 1) T acc (by omega) (by omega) (by omega) hT
      refine ⟨T', ?_, h5⟩
      refine evSucc (fun k => by rw [spec_l07Best.l0]) ?_
      rw [u64_at i h0 (by omega), hw]
      exact evT (by omega) (evT h0 (evF (fun g => c (hor.1 g)) h4))
theorem best_spec (a b : Nat) (h : okS n (a, b)) (T : List Int) (hT : TabR n L T) : ∃ T', Ev (fun k => spec_l07Best.f k n L a b T) (keepN n L a b (freeN n a b), T') ∧ TabR n L T' := by
  obtain ⟨b1, b2, b3⟩ := (boardB_iff n L).1 hb
  obtain ⟨T1, h1, h2⟩ := race_spec hb hn (fr a b n.toNat + 1) a b T h (by omega) hT
  obtain ⟨T', h3, h4⟩ := best_l hb hn a b h n.toNat 0 T1 [] (by omega) (by omega) (by simp) h2
  refine ⟨T', ?_, h4⟩
  unfold spec_l07Best.f
  rw [List.nil_append] at h3
  unfold freeN
  generalize keepN n L a b _ = l at h3 ⊢
  generalize rv n L a b = r at h1 h3
  exact evB h1 h3
end
end Go.Proofs.Ytjeiifiacjhfoaa.B


namespace Go.Proofs.Ytjeiifiacjhfoaa.B
open Go.RowKit Go.Proofs.Ytjeiifiacjhfoaa.Q Go.Proofs.YtjeiifiacjhfoaaW.PrintWords Go.Proofs.YtjeiifiacjhfoaaW.PrintLast Go.Proofs.YtjeiifiacjhfoaaW.PrintMore

/-- A state from the side of the player who is to take a node. -/
def sd (a b : Nat) : Nat × Nat := if pop a = pop b then (a, b) else (b, a)
theorem sd_rv (n : Int) (L : List Int) (a b : Nat) : rv n L a b = rc n L (sd a b).1 (sd a b).2 := by
  unfold rv sd
  by_cases c : pop a = pop b
  · rw [if_pos c, if_pos c]
  · rw [if_neg c, if_neg c]
theorem sd_free (n : Int) (a b : Nat) : freeN n a b = freeN n (sd a b).1 (sd a b).2 := by
  unfold sd
  by_cases c : pop a = pop b
  · rw [if_pos c]
  · rw [if_neg c]
    exact freeN_swap n b a
theorem sd_two {n : Nat} {a b : Nat} (h : Two n a b) : Two n (sd a b).1 (sd a b).2 := by
  unfold sd
  by_cases c : pop a = pop b
  · rw [if_pos c]; exact h
  · rw [if_neg c]; exact h.swap
theorem sd_fr (a b n : Nat) : fr (sd a b).1 (sd a b).2 n = fr a b n := by
  unfold sd
  by_cases c : pop a = pop b
  · rw [if_pos c]
  · rw [if_neg c]; exact fr_swap a b n
/-- The best nodes for the player who is to take one. -/
def bestO (n : Int) (L : List Int) (o t : Nat) : List Int := (freeN n o t).filter fun p => bh L (rc n L) o t p == rc n L o t
theorem keepN_sd (n : Int) (L : List Int) (a b : Nat) : keepN n L a b (freeN n a b) = bestO n L (sd a b).1 (sd a b).2 := by
  unfold keepN bestO
  rw [sd_rv, ← sd_free]
  unfold bs sd
  by_cases c : pop a = pop b
  · simp only [if_pos c]
  · simp only [if_neg c]
section
variable {n : Int} {L : List Int} (hb : boardB n L = true) (hn : n ≤ 9)
include hb hn
theorem best_impl (o t : Nat) (h : Two n.toNat o t) (hne : freeN n o t ≠ []) : Ev (fun k => bestF k n L 20 o t) (bestO n L o t) := by
  obtain ⟨b1, b2, b3⟩ := (boardB_iff n L).1 hb
  have hfr := fr_le o t n.toNat
  unfold bestF bestO
  refine evG (free_impl n L b1 o t h) (evE ?_ (delP_ev _ (fun p => bh L (rc n L) o t p != rc n L o t) _ (fun p hp => ?_)))
  · congr 1
    funext p
    generalize bh L (rc n L) o t p = x
    generalize rc n L o t = y
    cases hq : (x == y) <;> simp_all
  · have hf := put_fr hp
    have h2 := put_two hp h
    unfold worseP
    have e1 := behind_impl hb o t h p hp (fun k => raceF k n L 20) (fun hne2 => race_impl hb 20 t (put o p) h2.swap hne2 (by rw [fr_swap (put o p) t]; omega))
    have e2 := race_impl hb 20 o t h hne (by omega)
    generalize bh L (rc n L) o t p = x at e1 ⊢
    generalize rc n L o t = y at e2 ⊢
    exact evB e1 (evB e2 (evS _))
end
theorem fold_at (g : Int → Int) (l : List Int) : ∀ b : Int, l.foldl (fun b e => mx b (g e)) b = b ∨ ∃ x ∈ l, l.foldl (fun b e => mx b (g e)) b = g x := by
  induction l with
  | nil => intro b; exact .inl rfl
  | cons y l ih =>
    intro b
    simp only [List.foldl_cons]
    rcases ih (mx b (g y)) with h | ⟨x, hx, h⟩
    · rw [h]
      unfold mx
      split
      · exact .inr ⟨y, List.mem_cons_self, rfl⟩
      · exact .inl rfl
    · exact .inr ⟨x, List.mem_cons_of_mem _ hx, h⟩
theorem fold_one (g : Int → Int) (l : List Int) (lo : Int) (hl : l ≠ []) (h : ∀ x ∈ l, lo ≤ g x) : ∃ x ∈ l, l.foldl (fun b e => mx b (g e)) lo = g x := by
  cases l with
  | nil => exact absurd rfl hl
  | cons y l =>
    simp only [List.foldl_cons]
    have h0 := h y List.mem_cons_self
    have e : mx lo (g y) = g y := by unfold mx; split <;> omega
    rw [e]
    rcases fold_at g l (g y) with h | ⟨x, hx, h⟩
    · exact ⟨y, List.mem_cons_self, h⟩
    · exact ⟨x, List.mem_cons_of_mem _ hx, h⟩
theorem bestO_cons {n : Int} {L : List Int} {o t : Nat} (hf : freeN n o t ≠ []) : ∃ p rest, bestO n L o t = p :: rest ∧ p ∈ freeN n o t := by
  obtain ⟨x, hx, he⟩ := fold_one (bh L (rc n L) o t) _ (-1) hf (fun p _ => (bh_small n L o t p).1)
  have h1 := rc_eq n L o t
  rw [if_neg hf] at h1
  have hm : x ∈ bestO n L o t := List.mem_filter.2 ⟨hx, beq_iff_eq.2 (he.symm.trans h1.symm)⟩
  cases hq : bestO n L o t with
  | nil => rw [hq] at hm; cases hm
  | cons p rest => exact ⟨p, rest, rfl, (List.mem_filter.1 (show p ∈ bestO n L o t by rw [hq]; exact List.mem_cons_self)).1⟩
end Go.Proofs.Ytjeiifiacjhfoaa.B
