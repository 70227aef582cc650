/-
  Net scores: the plain recursion and its bounds; the program's store-free recursion comes to it. Positions alone, as the facts ask.
-/
import Derived.Test.YtelfllbjcpndfaaBoxAdd
import Derived.Test.YtelfllbjcpndfaaScoreCode
import Derived.Test.YtelfllbjcpndfaaHof
namespace Go.Proofs.Ytelfllbjcpndfaa.B
open Go.RowKit Go.Proofs.Ytelfllbjcpndfaa.Q Go.Proofs.YtelfllbjcpndfaaW.PrintWords Go.Proofs.YtelfllbjcpndfaaW.PrintLast Go.Proofs.YtelfllbjcpndfaaW.PrintMore

theorem dig_bit (a : Nat) (i : Int) (ha : a < 2 ^ 62) (h0 : 0 ≤ i) (h1 : i ≤ 60) : dig (a : Int) i = (((a.testBit i.toNat).toNat : Nat) : Int) := by
  have k62 : (2 : Nat) ^ 62 = 4611686018427387904 := by decide
  have r := shr_range (a : Int) i (by omega) (by omega)
  unfold dig
  rw [bit01 _ r.1 r.2]
  unfold shr
  rw [show min i.toNat IntKind.i64.bits = i.toNat from Nat.min_eq_left (by have : IntKind.i64.bits = 64 := rfl; omega)]
  have e2 : ((2 : Int) ^ i.toNat) = ((2 ^ i.toNat : Nat) : Int) := by push_cast; rfl
  rw [e2, Nat.testBit_eq_decide_div_mod_eq]
  generalize 2 ^ i.toNat = m
  have : ((a : Int) / (m : Int)) % 2 = ((a / m % 2 : Nat) : Int) := by push_cast; rfl
  rw [this]
  rcases Nat.mod_two_eq_zero_or_one (a / m) with e | e <;> simp [e]
theorem notDrawn_bit (a : Nat) (i : Int) (ha : a < 2 ^ 62) (h0 : 0 ≤ i) (h1 : i ≤ 60) : notDrawn (a : Int) i = !a.testBit i.toNat := by
  have := dig_bit a i ha h0 h1
  unfold dig at this
  unfold notDrawn
  rw [this]
  cases a.testBit i.toNat <;> rfl
theorem or_bit (a i j : Nat) : (a ||| 2 ^ i).testBit j = (a.testBit j || decide (i = j)) := by rw [Nat.testBit_or, Nat.testBit_two_pow]
section
variable {W H : Int} {a : Nat}
theorem box_facts (h : isBoxB W H a = true) : (1 ≤ W ∧ W ≤ 3) ∧ (1 ≤ H ∧ H ≤ 3) ∧ a < 16777216 ∧ 4 ≤ cnt W H ∧ cnt W H ≤ 24 ∧ a < 2 ^ (cnt W H).toNat := by
  obtain ⟨h1, h2, h3, h4⟩ := (isBoxB_iff W H a).1 h
  obtain ⟨_, f2, f3, _, _, _, f7, f8, _⟩ := cnt_facts W H h1.1 h1.2 h2.1 h2.2
  refine ⟨h1, h2, by omega, f2, f3, ?_⟩
  rw [f8] at h4
  exact_mod_cast h4
theorem small62 (h : a < 16777216) : a < 2 ^ 62 := Nat.lt_of_lt_of_le h (by decide)
theorem mem_free (h : isBoxB W H a = true) (e : Int) : e ∈ freeL W H a ↔ 0 ≤ e ∧ e < cnt W H ∧ a.testBit e.toNat = false := by
  obtain ⟨_, _, h3, f2, f3, _⟩ := box_facts h
  unfold freeL
  rw [List.mem_filter, mem_seg]
  constructor
  · rintro ⟨h1, h2⟩
    rw [notDrawn_bit a e (small62 h3) (by omega) (by omega)] at h2
    exact ⟨by omega, by omega, by simpa using h2⟩
  · rintro ⟨h1, h2, h4⟩
    refine ⟨by omega, ?_⟩
    rw [notDrawn_bit a e (small62 h3) (by omega) (by omega), h4]
    rfl
/-- The position behind an edge. -/
def put (a : Nat) (e : Int) : Nat := a ||| 2 ^ e.toNat
theorem addE_put (h : isBoxB W H a = true) (e : Int) (h0 : 0 ≤ e) (h1 : e < cnt W H) : addE (a : Int) e = ((put a e : Nat) : Int) := by
  obtain ⟨_, _, h3, f2, f3, _⟩ := box_facts h
  exact addE_nat a e h0 (by omega) h3
theorem put_box (h : isBoxB W H a = true) (e : Int) (h0 : 0 ≤ e) (h1 : e < cnt W H) : isBoxB W H (put a e : Nat) = true := by
  rw [← addE_put h e h0 h1]
  exact addE_range W H a e h h0 h1
theorem seg_nodup (d : Nat) : ∀ i : Int, (seg i d).Nodup := by
  induction d with
  | zero => intro i; exact List.nodup_nil
  | succ d ih =>
    intro i
    refine List.nodup_cons.2 ⟨fun hm => ?_, ih (i + 1)⟩
    have := (mem_seg d (i + 1) i).1 hm
    omega
theorem free_nodup (W H E : Int) : (freeL W H E).Nodup := (seg_nodup _ 0).filter _
theorem free_put (h : isBoxB W H a = true) (e : Int) (he : e ∈ freeL W H a) : freeL W H (put a e : Nat) = (freeL W H a).filter (· != e) := by
  obtain ⟨h0, h1, hb⟩ := (mem_free h e).1 he
  obtain ⟨_, _, h3, f2, f3, _⟩ := box_facts h
  obtain ⟨_, _, k3, _⟩ := box_facts (put_box h e h0 h1)
  unfold freeL
  rw [List.filter_filter]
  refine List.filter_congr (fun x hx => ?_)
  have hm := (mem_seg _ _ _).1 hx
  rw [notDrawn_bit _ x (small62 k3) (by omega) (by omega), notDrawn_bit a x (small62 h3) (by omega) (by omega)]
  unfold put
  rw [or_bit]
  by_cases c : x = e
  · subst c
    simp
  · have c2 : ¬ e.toNat = x.toNat := by omega
    simp [c, c2]
theorem free_put_len (h : isBoxB W H a = true) (e : Int) (he : e ∈ freeL W H a) : (freeL W H (put a e : Nat)).length + 1 = (freeL W H a).length := by
  rw [free_put h e he, ← (free_nodup W H a).erase_eq_filter e, List.length_erase_of_mem he]
  have := List.length_pos_of_mem he
  omega
/-- How many boxes are taken. -/
def taken (W H : Int) (a : Nat) : Int := (withL W H a 4).length
theorem taken_range (h : isBoxB W H a = true) : 0 ≤ taken W H a ∧ taken W H a ≤ 9 := by
  obtain ⟨h1, h2, _⟩ := box_facts h
  have := withL_len W H a 4 h1 h2
  unfold taken
  omega
theorem gain_taken (h : isBoxB W H a = true) (e : Int) (h0 : 0 ≤ e) (h1 : e < cnt W H) : gain W H a e = taken W H (put a e) - taken W H a := by
  unfold gain taken
  rw [addE_put h e h0 h1]
theorem dig_mono (h : a < 16777216) (e x : Int) (h0 : 0 ≤ e) (h1 : e ≤ 24) (x0 : 0 ≤ x) (x1 : x ≤ 24) : dig a x ≤ dig (put a e : Nat) x := by
  have hp : put a e < 2 ^ 62 := Nat.or_lt_two_pow (small62 h) (Nat.pow_lt_pow_right (by decide) (by omega))
  rw [dig_bit a x (small62 h) x0 (by omega), dig_bit _ x hp x0 (by omega)]
  unfold put
  rw [or_bit]
  cases a.testBit x.toNat <;> cases decide (e.toNat = x.toNat) <;> simp
theorem sum_mono (h : a < 16777216) (e : Int) (h0 : 0 ≤ e) (h1 : e ≤ 24) (L : List Int) (hL : ∀ x ∈ L, 0 ≤ x ∧ x ≤ 24) : sumDig a L ≤ sumDig (put a e : Nat) L := by
  induction L with
  | nil => simp [sumDig]
  | cons x L ih =>
    have h2 := hL x List.mem_cons_self
    have := dig_mono h e x h0 h1 h2.1 h2.2
    have := ih (fun y hy => hL y (List.mem_cons_of_mem _ hy))
    simp only [sumDig]
    omega
theorem filter_len_mono (p q : Int → Bool) (l : List Int) (h : ∀ x ∈ l, p x = true → q x = true) : (l.filter p).length ≤ (l.filter q).length := by
  induction l with
  | nil => simp
  | cons x l ih =>
    have := ih (fun y hy => h y (List.mem_cons_of_mem _ hy))
    have hx := h x List.mem_cons_self
    simp only [List.filter_cons]
    cases hp : p x with
    | true => simp [hx hp]; omega
    | false => cases hq : q x <;> simp <;> omega
theorem gain_nonneg (h : isBoxB W H a = true) (e : Int) (h0 : 0 ≤ e) (h1 : e < cnt W H) : taken W H a ≤ taken W H (put a e) := by
  obtain ⟨w, hh, h3, f2, f3, _⟩ := box_facts h
  unfold taken withL
  have := filter_len_mono (fun i => drawnN W H a i == 4) (fun i => drawnN W H (put a e : Nat) i == 4) (seg 0 (W * H).toNat) (fun i hi hd => by
    have hm := (mem_seg _ _ _).1 hi
    have hwh : 1 ≤ W * H := (cnt_facts W H w.1 w.2 hh.1 hh.2).2.2.2.2.2.2.2.2.2.1
    obtain ⟨_, _, hl, ha⟩ := around_facts W H a i w hh hm.1 (by omega)
    have hs := sum_mono h3 e h0 (by omega) (aroundL W H i) (fun x hx => by have := ha x hx; omega)
    have hp : put a e < 2 ^ 62 := Nat.or_lt_two_pow (small62 h3) (Nat.pow_lt_pow_right (by decide) (by omega))
    have k62 : (2 : Nat) ^ 62 = 4611686018427387904 := by decide
    have hr := sumDig_range (put a e : Nat) (by omega) (by omega) (aroundL W H i)
    simp only [drawnN, beq_iff_eq] at hd ⊢
    omega)
  omega
end
/-- The net score, at most d edges deep. -/
def bh (f : Nat → Int) (W H : Int) (a : Nat) (e : Int) : Int := if taken W H (put a e) - taken W H a > 0 then (taken W H (put a e) - taken W H a) + f (put a e) else - f (put a e)
def best (g : Int → Int) : List Int → Int
  | [] => 0
  | x :: xs => xs.foldl (fun b e => mx b (g e)) (g x)
def scN (W H : Int) : Nat → Nat → Int
  | 0, _ => 0
  | d + 1, a => best (bh (scN W H d) W H a) (freeL W H a)
/-- The net score. -/
def sc (W H : Int) (a : Nat) : Int := scN W H ((freeL W H a).length + 1) a
theorem fold_congr (g g' : Int → Int) (l : List Int) : (∀ x ∈ l, g x = g' x) → ∀ b, l.foldl (fun b e => mx b (g e)) b = l.foldl (fun b e => mx b (g' e)) b := by
  induction l with
  | nil => intro h b; rfl
  | cons x l ih =>
    intro h b
    simp only [List.foldl_cons]
    rw [h x List.mem_cons_self]
    exact ih (fun y hy => h y (List.mem_cons_of_mem _ hy)) _
theorem best_congr {g g' : Int → Int} {l : List Int} (h : ∀ x ∈ l, g x = g' x) : best g l = best g' l := by
  cases l with
  | nil => rfl
  | cons x l =>
    simp only [best]
    rw [h x List.mem_cons_self]
    exact fold_congr g g' l (fun y hy => h y (List.mem_cons_of_mem _ hy)) _
theorem sc_eq {W H : Int} {a : Nat} (h : isBoxB W H a = true) : sc W H a = best (bh (sc W H) W H a) (freeL W H a) := by
  unfold sc
  rw [scN]
  refine best_congr (fun e he => ?_)
  simp only [bh]
  rw [free_put_len h e he]
theorem fold_range (g : Int → Int) (lo hi : Int) (l : List Int) : (∀ x ∈ l, lo ≤ g x ∧ g x ≤ hi) → ∀ b, lo ≤ b ∧ b ≤ hi → lo ≤ l.foldl (fun b e => mx b (g e)) b ∧ l.foldl (fun b e => mx b (g e)) b ≤ hi := by
  induction l with
  | nil => intro h b hb; exact hb
  | cons x l ih =>
    intro h b hb
    have hx := h x List.mem_cons_self
    refine ih (fun y hy => h y (List.mem_cons_of_mem _ hy)) _ ?_
    simp only [mx]
    split <;> omega
theorem sc_range {W H : Int} (m : Nat) : ∀ a : Nat, isBoxB W H a = true → (freeL W H a).length < m → -(9 - taken W H a) ≤ sc W H a ∧ sc W H a ≤ 9 - taken W H a := by
  induction m with
  | zero => intro a h hm; omega
  | succ m ih =>
    intro a h hm
    have ht := taken_range h
    have hb : ∀ x ∈ freeL W H a, -(9 - taken W H a) ≤ bh (sc W H) W H a x ∧ bh (sc W H) W H a x ≤ 9 - taken W H a := by
      intro x hx
      obtain ⟨h0, h1, _⟩ := (mem_free h x).1 hx
      have hl := free_put_len h x hx
      have hr := ih (put a x) (put_box h x h0 h1) (by omega)
      have hg := gain_nonneg h x h0 h1
      unfold bh
      split <;> omega
    rw [sc_eq h]
    cases hf : freeL W H a with
    | nil => simp only [best]; omega
    | cons x xs =>
      rw [hf] at hb
      exact fold_range _ _ _ xs (fun y hy => hb y (List.mem_cons_of_mem _ hy)) _ (hb x List.mem_cons_self)
theorem sc_small {W H : Int} {a : Nat} (h : isBoxB W H a = true) : -9 ≤ sc W H a ∧ sc W H a ≤ 9 := by
  have := sc_range ((freeL W H a).length + 1) a h (by omega)
  have := taken_range h
  omega
theorem bh_small {W H : Int} {a : Nat} (h : isBoxB W H a = true) (e : Int) (h0 : 0 ≤ e) (h1 : e < cnt W H) : -9 ≤ bh (sc W H) W H a e ∧ bh (sc W H) W H a e ≤ 18 := by
  have h2 := sc_small (put_box h e h0 h1)
  have h3 := taken_range h
  have h4 := taken_range (put_box h e h0 h1)
  have h5 := gain_nonneg h e h0 h1
  unfold bh
  split <;> omega
theorem behind_impl {W H : Int} {a : Nat} (h : isBoxB W H a = true) (e : Int) (h0 : 0 ≤ e) (h1 : e < cnt W H) (S : Nat → Int → Option Int) (hS : Ev (fun k => S k (put a e : Nat)) (sc W H (put a e))) :
    Ev (fun k => behindF (S k) k W H a e) (bh (sc W H) W H a e) := by
  have h2 := sc_small (put_box h e h0 h1)
  have h3 := taken_range h
  have h4 := taken_range (put_box h e h0 h1)
  unfold behindF
  refine evB (add_impl W H a e h h0 h1) ?_
  simp only
  rw [addE_put h e h0 h1, gain_taken h e h0 h1]
  refine evB hS (evE ?_ (evS _))
  unfold bh
  split
  · rw [wrap_in (by omega) (by omega)]
  · rw [wrap_in (by omega) (by omega)]
theorem maxL_ev (f : Nat → Int → Option Int) (g : Int → Int) (l : List Int) : (∀ x ∈ l, Ev (fun k => f k x) (g x)) → ∀ b, Ev (fun k => maxL (f k) l b) (l.foldl (fun b e => mx b (g e)) b) := by
  induction l with
  | nil => intro h b; exact evS _
  | cons x l ih =>
    intro h b
    simp only [maxL, List.foldl_cons]
    exact evB (h x List.mem_cons_self) (ih (fun y hy => h y (List.mem_cons_of_mem _ hy)) _)
theorem best_low (g : Int → Int) (l : List Int) (lo : Int) (hl : l ≠ []) (h : ∀ x ∈ l, lo < g x) : l.foldl (fun b e => mx b (g e)) lo = best g l := by
  cases l with
  | nil => exact absurd rfl hl
  | cons x xs =>
    simp only [List.foldl_cons, best]
    have := h x List.mem_cons_self
    rw [show mx lo (g x) = g x by unfold mx; rw [if_pos this]]
theorem score_impl (W H : Int) (d : Nat) : ∀ a : Nat, isBoxB W H a = true → (freeL W H a).length < d → Ev (fun k => scoreF k W H d a) (sc W H a) := by
  induction d with
  | zero => intro a h hd; omega
  | succ d ih =>
    intro a h hd
    obtain ⟨_, _, h3, _⟩ := box_facts h
    have hl := freeL_len W H a h
    simp only [scoreF]
    refine evT (by unfold okS; omega) (evG (free_impl W H a h) ?_)
    rw [sc_eq h]
    by_cases c : (freeL W H a).length = 0
    · refine evT c (evE ?_ (evS _))
      rw [List.eq_nil_of_length_eq_zero c]
      rfl
    · refine evF c (evT (by omega) (evE (best_low _ _ (-100) (fun e => c (by rw [e]; rfl)) (fun x hx => ?_)) (maxL_ev _ (bh (sc W H) W H a) _ (fun x hx => ?_) _)))
      · obtain ⟨h0, h1, _⟩ := (mem_free h x).1 hx
        have := bh_small h x h0 h1
        omega
      · obtain ⟨h0, h1, _⟩ := (mem_free h x).1 hx
        have hl2 := free_put_len h x hx
        exact behind_impl h x h0 h1 (fun k => scoreF k W H d) (ih (put a x) (put_box h x h0 h1) (by omega))
end Go.Proofs.Ytelfllbjcpndfaa.B
