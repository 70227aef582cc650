/-
  Plain lemmas on 'Ev' (with enough rounds the printed function answers so). No conditions.
  impl.chosen at whatever function value: it comes to the plain choice among the numbers below n. The function value may make memory of its own; what lay before stays. At most 1,000,000 numbers.
  Plain lemmas: a choice among numbers by a condition that is told everywhere is a filter. No Go in them.
  Powers of two as shifts, and the bit operations on natural numbers. No condition beyond those that are written.
  Whether a number lies in bounds: what program and reference come to. No condition.
  The code of the first of two conditions that does not hold. No condition.
  Plain: two sets of bits as a row of digits 0, 1, 2: how a digit turns when a bit is laid, how many digits are nought, and the number with these digits in base 3. No Go in it.
-/
import Derived.Test.YtlmohkbimnhecaaGreatDoorQ0
import Derived.Shelf.Abstract
import Derived.Test.YtlmohkbimnhecaaGreatDoorQ4
import Derived.Test.YtlmohkbimnhecaaGreatDoorQ2
import Derived.Test.YtlmohkbimnhecaaGreatDoorQ3
import Init

namespace Go.Proofs.YtlmohkbimnhecaaGreatDoor.B
open Go.RowKit Go.Proofs.YtlmohkbimnhecaaGreatDoor.Q Go.Proofs.YtlmohkbimnhecaaGreatDoorW.PrintWords Go.Proofs.YtlmohkbimnhecaaGreatDoorW.PrintLast

theorem evS {α : Type} (r : α) : Ev (fun _ => some r) r := ⟨0, fun _ _ => rfl⟩
theorem evE {α : Type} {g : Nat → Option α} {r r' : α} (h : r = r') (k : Ev g r) : Ev g r' := h ▸ k
theorem evT {α : Type} {c : Prop} [Decidable c] {g f : Nat → Option α} {r : α} (h : c) (k : Ev g r) : Ev (fun n => if c then g n else f n) r := by
  obtain ⟨K, hK⟩ := k
  exact ⟨K, fun n hn => (if_pos h).trans (hK n hn)⟩
theorem evF {α : Type} {c : Prop} [Decidable c] {g f : Nat → Option α} {r : α} (h : ¬ c) (k : Ev f r) : Ev (fun n => if c then g n else f n) r := by
  obtain ⟨K, hK⟩ := k
  exact ⟨K, fun n hn => (if_neg h).trans (hK n hn)⟩
theorem evB {α β : Type} {g : Nat → Option α} {f : Nat → α → Option β} {a : α} {r : β} (h : Ev g a) (k : Ev (fun n => f n a) r) : Ev (fun n => (g n).bind (f n)) r := Ev.bind h k
/-- A bind whose first part is known. -/
theorem evG {α β : Type} {o : Option α} {f : Nat → α → Option β} {a : α} {r : β} (h : o = some a) (k : Ev (fun n => f n a) r) : Ev (fun n => o.bind (f n)) r := by
  subst h
  exact k
theorem evSucc {α : Type} {g f : Nat → Option α} {r : α} (h : ∀ k, g (k + 1) = f k) (k : Ev f r) : Ev g r := Ev.step h k
theorem wrap_in {x : Int} (h0 : -9223372036854775808 ≤ x) (h1 : x ≤ 9223372036854775807) : wrap64 x = x := by
  unfold wrap64
  omega
end Go.Proofs.YtlmohkbimnhecaaGreatDoor.B

namespace Go.Proofs.YtlmohkbimnhecaaGreatDoor.Q
open Go.RowKit Go.Proofs.YtlmohkbimnhecaaGreatDoorW.PrintWords Go.Proofs.YtlmohkbimnhecaaGreatDoorW.PrintLast Go.Proofs.YtlmohkbimnhecaaGreatDoorW.PrintMore

/-- The plain choice: so many numbers, from i on. -/
def chooseP (p : Int → Option Bool) : Nat → Int → Option (List Int)
  | 0, _ => some []
  | d + 1, i => (p i).bind fun b => (chooseP p d (i + 1)).bind fun l => some (if b = true then i :: l else l)
set_option maxHeartbeats 4000000 in
theorem chosen_calls (g : Nat) (lb : Array Value) (eg : ∀ args w, (callFunc g args).run Tryz.prog w = .ok (.enter g args) w) (p : Int → Option Bool) (n : Int) (r : List Int) (w : World)
    (hp : ∀ x b W, 0 ≤ x → x < n → Below w.heap.size w W → p x = some b → Calls Tryz.prog g (#[.int .i64 x] ++ lb) W fun e w' => e = .returned (.bool b) ∧ Below W.heap.size W w')
    (hn : n ≤ 1000000) (h : chooseP p n.toNat 0 = some r) :
    Calls Tryz.prog 69 #[.int .i64 n, .func (.func g) #[] lb] w fun e w' => ∃ v : Value, e = .returned v ∧ Kd.R (Kd.int .i64) 2 w' w.heap.size (fun _ => True) v r ∧ Below w.heap.size w w' := by
  have HP := Aside0.mk hp
  have H := Aside0.mk h
  have HB := Aside0.mk (Below.refl w.heap.size w)
  clear hp h
  go_enter Tryz.func69, Tryz.ntmps69
  go_wp2
  generalize hw1 : w.alloc (.cells #[] 2) = w1
  have HB1 : Aside0 (Below w.heap.size w w1) := ⟨by rw [← hw1]; exact (Below.refl _ _).alloc (Nat.le_refl _) _⟩
  have HO1 : Aside0 (Kd.R (Kd.int .i64) 2 w1 w.heap.size (fun _ => True) (.slice (some ⟨w.heap.size, 0, none⟩) 0 0) []) := ⟨by
    have := own_lit w w.heap.size 2 .i64 [] (Nat.le_refl _) (by simp)
    have h2 : (w.alloc (.cells #[] 2)).ownsRow w.heap.size 2 1 (.slice (some ⟨w.heap.size, 0, none⟩) 0 0) 0 [] := by simpa [nums] using this
    rw [← hw1]
    exact ⟨fun _ _ => trivial, [], h2, Reps.none _ _⟩⟩
  clear hw1 HB
  go_loopg [5, 6, 9] n.toNat (fun gg v5 _ v9 wr => ∃ (i : Int) (acc rest : List Int), 0 ≤ i ∧ (i ≤ n ∨ i = 0) ∧ (n - i).toNat ≤ gg ∧ v9 = .int .i64 i ∧ (acc.length : Int) ≤ i ∧
    Aside0 (Kd.R (Kd.int .i64) 2 wr w.heap.size (fun _ => True) v5 acc) ∧ Aside0 (Below w.heap.size w wr) ∧ Aside0 (chooseP p (n - i).toNat i = some rest) ∧ Aside0 (r = acc ++ rest))
  case atStart => exact ⟨0, [], r, by omega, .inr rfl, by simp, rfl, by simp, HO1, HB1, ⟨by simpa using H.out⟩, ⟨by simp⟩⟩
  case round =>
    clear H HO1 HB1
    obtain ⟨i, acc, rest, hi0, hin, hg, rfl, hlen, HO, HB, HC, HR⟩ := hrel
    by_cases hlt : i < n
    · obtain ⟨b, l, hb, HC2, HR2⟩ : ∃ b l, p i = some b ∧ Aside0 (chooseP p (n - (i + 1)).toNat (i + 1) = some l) ∧ Aside0 (rest = if b = true then i :: l else l) := by
        have hC := HC.out
        rw [show (n - i).toNat = (n - (i + 1)).toNat + 1 by omega] at hC
        simp only [chooseP] at hC
        obtain ⟨b, hb, hC⟩ := Option.bind_eq_some_iff.1 hC
        obtain ⟨l, hl, hC⟩ := Option.bind_eq_some_iff.1 hC
        exact ⟨b, l, hb, ⟨hl⟩, ⟨(Option.some.inj hC).symm⟩⟩
      have hcall := HP.out i b wr hi0 hlt HB.out hb
      have hin1 : i + 1 ≤ n := by omega
      clear hb HC hin
      cases b with
      | true =>
        have HR3 : Aside0 (r = (acc ++ [i]) ++ l) := ⟨by have := HR.out; have := HR2.out; simp_all⟩
        clear HR HR2
        go_wp2_with (first | (go_at_fn g; refine hcall.mono ?_; rintro e w' ⟨rfl, hb'⟩; have HO2 := Aside0.mk (Kd.R_below HO.out hb'); have HB2 := Aside0.mk (below_then HB.out HB.out.size hb'); clear HO HB hb') | (at_builtin; refine Kd.R_append (Kd.int .i64) (w0 := w) w.heap.size rfl (.tmp 15) (.tmp 17) 30 2 (.int .i64 0) 8 rfl Tryz.underlying30 info2 rfl (by decide) (by omega) u5 acc i [.int .i64 i] (fun _ => True) (fun _ => False) rfl rfl ?aP (fun _ hk => hk.elim) ?aF ?aO ?aB ?aS ?aL ?_; (case aP => exact rfl); (case aB => exact HB2.out); (case aF => exact (fun _ _ => trivial)); (case aO => exact HO2.out); (case aS => exact HB2.out.size); (case aL => omega); intro v1 w2 ho hb hg hat; have HO3 := Aside0.mk ho; have HB3 := Aside0.mk hb; clear ho hb hg hat HO2 HB2))
        go_roundg ((n - (i + 1)).toNat)
        case measure => omega
        case rel => exact ⟨i + 1, acc ++ [i], l, by omega, .inl hin1, by omega, by go_num, by simp; omega, HO3, HB3, HC2, HR3⟩
      | false =>
        have HR3 : Aside0 (r = acc ++ l) := ⟨by have := HR.out; have := HR2.out; simp_all⟩
        clear HR HR2
        go_wp2_with (first | (go_at_fn g; refine hcall.mono ?_; rintro e w' ⟨rfl, hb'⟩; have HO2 := Aside0.mk (Kd.R_below HO.out hb'); have HB2 := Aside0.mk (below_then HB.out HB.out.size hb'); clear HO HB hb'))
        go_roundg ((n - (i + 1)).toNat)
        case measure => omega
        case rel => exact ⟨i + 1, acc, l, by omega, .inl hin1, by omega, by go_num, by omega, HO2, HB2, HC2, HR3⟩
    · have HR3 : Aside0 (r = acc) := ⟨by
        have hC := HC.out
        rw [show (n - i).toNat = 0 by omega] at hC
        simp only [chooseP, Option.some.injEq] at hC
        have := HR.out
        simp_all⟩
      clear HR HC
      go_wp2
      go_ret
      exact ⟨_, rfl, by rw [HR3.out]; exact HO.out, HB.out⟩
end Go.Proofs.YtlmohkbimnhecaaGreatDoor.Q

namespace Go.Proofs.YtlmohkbimnhecaaGreatDoor.B
open Go.RowKit Go.Proofs.YtlmohkbimnhecaaGreatDoor.Q Go.Proofs.YtlmohkbimnhecaaGreatDoorW.PrintWords Go.Proofs.YtlmohkbimnhecaaGreatDoorW.PrintLast Go.Proofs.YtlmohkbimnhecaaGreatDoorW.PrintMore

/-- The numbers i, i + 1, .. -/
def seg (i : Int) : Nat → List Int
  | 0 => []
  | d + 1 => i :: seg (i + 1) d
theorem seg_length (d : Nat) : ∀ i, (seg i d).length = d := by
  induction d with
  | zero => intro i; rfl
  | succ d ih => intro i; simp [seg, ih]
theorem mem_seg (d : Nat) : ∀ (i x : Int), x ∈ seg i d ↔ i ≤ x ∧ x < i + d := by
  induction d with
  | zero =>
    intro i x
    simp only [seg, List.not_mem_nil, false_iff]
    omega
  | succ d ih =>
    intro i x
    simp only [seg, List.mem_cons, ih]
    omega
theorem chooseP_ev (p : Nat → Int → Option Bool) (q : Int → Bool) (d : Nat) : ∀ i : Int, (∀ x, i ≤ x → x < i + d → Ev (fun k => p k x) (q x)) → Ev (fun k => chooseP (p k) d i) ((seg i d).filter q) := by
  induction d with
  | zero => intro i h; exact evS _
  | succ d ih =>
    intro i h
    have e := ih (i + 1) (fun x h0 h1 => h x (by omega) (by omega))
    simp only [chooseP, seg, List.filter_cons]
    exact evB (h i (by omega) (by omega)) (evB e (evS _))
theorem filter_length_le_seg (q : Int → Bool) (i : Int) (d : Nat) : ((seg i d).filter q).length ≤ d := by
  have := List.length_filter_le q (seg i d)
  rw [seg_length] at this
  exact this
theorem bit01 (x : Int) (h0 : 0 ≤ x) (h1 : x < 9223372036854775808) : Go.bits .and .i64 x 1 = x % 2 := by
  have h := bits_mask .i64 63 (by decide) (fun n h0 h1 => by rw [show (2 : Int) ^ 63 = 9223372036854775808 by decide] at h1; rw [IntKind.wrap_i64]; omega) 1 (by decide) x h0 (by rw [show (2 : Int) ^ 63 = 9223372036854775808 by decide]; omega)
  simpa using h
theorem shr_range (x e : Int) (h0 : 0 ≤ x) (h1 : x < 9223372036854775808) : 0 ≤ shr .i64 x e ∧ shr .i64 x e < 9223372036854775808 := by
  unfold shr
  have hp : (0 : Int) < 2 ^ min e.toNat IntKind.i64.bits := Int.pow_pos (by decide)
  refine ⟨Int.ediv_nonneg h0 (Int.le_of_lt hp), ?_⟩
  have := Int.ediv_le_self (2 ^ min e.toNat IntKind.i64.bits) h0
  omega
theorem u64_in (x : Int) (h0 : 0 ≤ x) (h1 : x < 18446744073709551616) : IntKind.u64.wrap x = x := by
  simp [IntKind.wrap, IntKind.bits, IntKind.signed]
  omega
end Go.Proofs.YtlmohkbimnhecaaGreatDoor.B

namespace Go.Proofs.YtlmohkbimnhecaaGreatDoor.B
open Go.RowKit Go.Proofs.YtlmohkbimnhecaaGreatDoor.Q Go.Proofs.YtlmohkbimnhecaaGreatDoorW.PrintWords Go.Proofs.YtlmohkbimnhecaaGreatDoorW.PrintLast Go.Proofs.YtlmohkbimnhecaaGreatDoorW.PrintMore

theorem shl_one (e : Int) (h0 : 0 ≤ e) (h1 : e ≤ 24) : shl .i64 1 e = ((2 ^ e.toNat : Nat) : Int) := by
  have h : ∀ m : Fin 25, shl .i64 1 ((m.val : Nat) : Int) = ((2 ^ m.val : Nat) : Int) := by decide +kernel
  have := h ⟨e.toNat, by omega⟩
  simp only [Int.toNat_of_nonneg h0] at this
  exact this
theorem or_nat (a b : Nat) (ha : a < 2 ^ 62) (hb : b < 2 ^ 62) : Go.bits .or .i64 (a : Int) (b : Int) = ((a ||| b : Nat) : Int) :=
  (bits_nat .i64 62 (by decide) (fun n h0 h1 => by rw [show (2 : Int) ^ 62 = 4611686018427387904 by decide] at h1; rw [IntKind.wrap_i64]; omega) a b ha hb).2
theorem and_nat (a b : Nat) (ha : a < 2 ^ 62) (hb : b < 2 ^ 62) : Go.bits .and .i64 (a : Int) (b : Int) = ((a &&& b : Nat) : Int) :=
  (bits_nat .i64 62 (by decide) (fun n h0 h1 => by rw [show (2 : Int) ^ 62 = 4611686018427387904 by decide] at h1; rw [IntKind.wrap_i64]; omega) a b ha hb).1
theorem andNot_nat (a b : Nat) (ha : a < 2 ^ 62) (hb : b < 2 ^ 62) : Go.bits .andNot .i64 (a : Int) (b : Int) = ((a ^^^ (a &&& b) : Nat) : Int) := by
  have k62 : (2 : Nat) ^ 62 = 4611686018427387904 := by decide
  have k64 : (2 : Nat) ^ 64 = 18446744073709551616 := by decide
  show IntKind.i64.wrap ((BitVec.ofInt 64 (a : Int) &&& ~~~BitVec.ofInt 64 (b : Int)).toNat : Int) = _
  rw [BitVec.toNat_and, BitVec.toNat_not, BitVec.ofInt_natCast, BitVec.ofInt_natCast, BitVec.toNat_ofNat, BitVec.toNat_ofNat, Nat.mod_eq_of_lt (by omega), Nat.mod_eq_of_lt (by omega)]
  have e : a &&& (2 ^ 64 - 1 - b) = a ^^^ (a &&& b) := by
    refine Nat.eq_of_testBit_eq (fun i => ?_)
    rw [show 2 ^ 64 - 1 - b = 2 ^ 64 - (b + 1) by omega, Nat.testBit_and, Nat.testBit_two_pow_sub_succ (by omega), Nat.testBit_xor, Nat.testBit_and]
    by_cases h : i < 64
    · simp only [h, decide_true, Bool.true_and]
      cases a.testBit i <;> cases b.testBit i <;> rfl
    · have : a.testBit i = false := Nat.testBit_lt_two_pow (Nat.lt_of_lt_of_le ha (Nat.pow_le_pow_right (by decide) (by omega)))
      simp [this]
  rw [e]
  have l := Nat.xor_lt_two_pow ha (Nat.and_lt_two_pow a hb)
  rw [IntKind.wrap_i64]
  omega
theorem pow_le (e : Int) (m : Nat) (h1 : e ≤ m) : (2 : Nat) ^ e.toNat ≤ 2 ^ m := Nat.pow_le_pow_right (by decide) (by omega)
theorem pow_pos' (e : Int) : 1 ≤ (2 : Nat) ^ e.toNat := Nat.one_le_two_pow
end Go.Proofs.YtlmohkbimnhecaaGreatDoor.B

namespace Go.Proofs.YtlmohkbimnhecaaGreatDoor.B
open Go.RowKit Go.Proofs.YtlmohkbimnhecaaGreatDoor.Q Go.Proofs.YtlmohkbimnhecaaGreatDoorW.PrintWords Go.Proofs.YtlmohkbimnhecaaGreatDoorW.PrintLast

theorem l01In_eq (x lo hi : Int) : spec_l01In.f x lo hi = some (decide (lo ≤ x ∧ x ≤ hi)) := by
  unfold spec_l01In.f
  by_cases h : x ≥ lo
  · rw [if_pos h]
    simp [show lo ≤ x from h]
  · rw [if_neg h]
    simp [show ¬ lo ≤ x from h]
theorem within_eq (x lo hi : Int) : impl_within.f x lo hi = some (decide (lo ≤ x ∧ x ≤ hi)) := by
  unfold impl_within.f
  by_cases h : lo ≤ x
  · rw [if_pos h]
    simp [h]
  · rw [if_neg h]
    simp [h]
end Go.Proofs.YtlmohkbimnhecaaGreatDoor.B

namespace Go.Proofs.YtlmohkbimnhecaaGreatDoor.B
open Go.RowKit Go.Proofs.YtlmohkbimnhecaaGreatDoor.Q Go.Proofs.YtlmohkbimnhecaaGreatDoorW.PrintWords Go.Proofs.YtlmohkbimnhecaaGreatDoorW.PrintLast

theorem first_two (b c : Bool) (x y : Int) : Ev (fun k => impl_first.f k [⟨b, x⟩, ⟨c, y⟩]) (if b = true then if c = true then 0 else y else x) := by
  unfold impl_first.f
  refine evSucc (fun k => by rw [impl_first.l0]) ?_
  refine evT (by simp) (evT (by omega) (evT (by simp) ?_))
  cases b with
  | false => exact evF (by simp [rd_T58]) (evS _)
  | true =>
    refine evT (by simp [rd_T58]) ?_
    rw [show wrap64 (0 + 1) = 1 by decide +kernel]
    refine evSucc (fun k => by rw [impl_first.l0]) ?_
    refine evT (by simp) (evT (by omega) (evT (by simp) ?_))
    cases c with
    | false => exact evF (by simp [rd_T58]) (evS _)
    | true =>
      refine evT (by simp [rd_T58]) ?_
      rw [show wrap64 (1 + 1) = 2 by decide +kernel]
      exact evE (r := (0 : Int)) (by simp) (evSucc (fun k => by rw [impl_first.l0]) (evF (by simp) (evS _)))
theorem first_one (b : Bool) (x : Int) : Ev (fun k => impl_first.f k [⟨b, x⟩]) (if b = true then 0 else x) := by
  unfold impl_first.f
  refine evSucc (fun k => by rw [impl_first.l0]) ?_
  refine evT (by simp) (evT (by omega) (evT (by simp) ?_))
  cases b with
  | false => exact evF (by simp [rd_T58]) (evS _)
  | true =>
    refine evT (by simp [rd_T58]) ?_
    rw [show wrap64 (0 + 1) = 1 by decide +kernel]
    exact evE (r := (0 : Int)) (by simp) (evSucc (fun k => by rw [impl_first.l0]) (evF (by simp) (evS _)))
end Go.Proofs.YtlmohkbimnhecaaGreatDoor.B

namespace Go.Proofs.YtlmohkbimnhecaaGreatDoor.B

/-- The digit of two sets at a place. -/
def dg (a b i : Nat) : Nat := (a.testBit i).toNat + 2 * (b.testBit i).toNat
theorem dg_zero (a b i : Nat) : dg a b i = 0 ↔ a.testBit i = false ∧ b.testBit i = false := by
  unfold dg
  cases a.testBit i <;> cases b.testBit i <;> simp
theorem dg_three (a b i : Nat) : dg a b i ≠ 3 ↔ ¬ (a.testBit i = true ∧ b.testBit i = true) := by
  unfold dg
  cases a.testBit i <;> cases b.testBit i <;> simp
theorem or_bit (a i j : Nat) : (a ||| 2 ^ i).testBit j = (a.testBit j || decide (i = j)) := by rw [Nat.testBit_or, Nat.testBit_two_pow]
theorem dg_left (a b i j : Nat) (h : dg a b i = 0) : dg (a ||| 2 ^ i) b j = if j = i then 1 else dg a b j := by
  have h0 := (dg_zero a b i).1 h
  unfold dg
  rw [or_bit]
  by_cases e : j = i
  · subst e
    simp [h0]
  · rw [if_neg e, decide_eq_false (fun c => e c.symm), Bool.or_false]
theorem dg_right (a b i j : Nat) (h : dg a b i = 0) : dg a (b ||| 2 ^ i) j = if j = i then 2 else dg a b j := by
  have h0 := (dg_zero a b i).1 h
  unfold dg
  rw [or_bit]
  by_cases e : j = i
  · subst e
    simp [h0]
  · rw [if_neg e, decide_eq_false (fun c => e c.symm), Bool.or_false]
/-- Two sets apart, of n places. -/
def Two (n a b : Nat) : Prop := a < 2 ^ n ∧ b < 2 ^ n ∧ ∀ i, dg a b i ≠ 3
theorem or_lt (n a i : Nat) (ha : a < 2 ^ n) (hi : i < n) : a ||| 2 ^ i < 2 ^ n := Nat.or_lt_two_pow ha (Nat.pow_lt_pow_right (by decide) hi)
theorem Two.left {n a b i : Nat} (h : Two n a b) (hi : i < n) (h0 : dg a b i = 0) : Two n (a ||| 2 ^ i) b :=
  ⟨or_lt n a i h.1 hi, h.2.1, fun j => by rw [dg_left a b i j h0]; split; decide; exact h.2.2 j⟩
theorem Two.right {n a b i : Nat} (h : Two n a b) (hi : i < n) (h0 : dg a b i = 0) : Two n a (b ||| 2 ^ i) :=
  ⟨h.1, or_lt n b i h.2.1 hi, fun j => by rw [dg_right a b i j h0]; split; decide; exact h.2.2 j⟩
theorem bit_ge (n a i : Nat) (ha : a < 2 ^ n) (hi : n ≤ i) : a.testBit i = false := Nat.testBit_lt_two_pow (Nat.lt_of_lt_of_le ha (Nat.pow_le_pow_right (by decide) hi))
theorem two_of_and (n a b : Nat) (ha : a < 2 ^ n) (hb : b < 2 ^ n) (h : a &&& b = 0) : Two n a b := by
  refine ⟨ha, hb, fun i => (dg_three a b i).2 (fun c => ?_)⟩
  have e : (a &&& b).testBit i = false := by rw [h]; exact Nat.zero_testBit i
  rw [Nat.testBit_and, c.1, c.2] at e
  cases e

/-- How many of the first n digits are nought. -/
def fr (a b : Nat) : Nat → Nat
  | 0 => 0
  | n + 1 => fr a b n + if dg a b n = 0 then 1 else 0
/-- A row of n numbers as a store of right answers: at each place that a state has stands nought or the state's number. -/
def Tab {σ : Type} (ok : σ → Prop) (place : σ → Nat) (val : σ → Int) (n : Nat) (t : List Int) : Prop := t.length = n ∧ ∀ s, ok s → place s < n ∧ (t.getD (place s) 0 = 0 ∨ t.getD (place s) 0 = val s)
theorem Tab.set {σ : Type} {ok : σ → Prop} {place : σ → Nat} {val : σ → Int} {n : Nat} {t : List Int} (h : Tab ok place val n t) (hinj : ∀ s s', ok s → ok s' → place s = place s' → s = s') (s : σ) (hs : ok s) : Tab ok place val n (t.set (place s) (val s)) := by
  refine ⟨by rw [List.length_set]; exact h.1, fun s' hs' => ⟨(h.2 s' hs').1, ?_⟩⟩
  by_cases e : place s = place s'
  · obtain rfl := hinj s s' hs hs' e
    have := (h.2 s hs).1
    right
    rw [List.getD_eq_getElem?_getD, List.getElem?_set_self (by rw [h.1]; exact this)]
    rfl
  · have := (h.2 s' hs').2
    rw [List.getD_eq_getElem?_getD, List.getElem?_set_ne e, ← List.getD_eq_getElem?_getD]
    exact this
theorem Tab.new {σ : Type} {ok : σ → Prop} {place : σ → Nat} {val : σ → Int} {n : Nat} (h : ∀ s, ok s → place s < n) : Tab ok place val n (List.replicate n 0) := by
  refine ⟨by simp, fun s hs => ⟨h s hs, .inl ?_⟩⟩
  rw [List.getD_eq_getElem?_getD, List.getElem?_replicate_of_lt (h s hs)]
  rfl
end Go.Proofs.YtlmohkbimnhecaaGreatDoor.B
