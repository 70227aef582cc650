/-
  Plain: numbers of texts: of a number's text from 0 to 16 both read the number; of any text of at most 1,000,000,000 letters the reference tells some number, and the program one within the bounds or none.
-/
import Derived.Test.YtiaajlehmagljaaDoorBoardWords
import Derived.Test.YtiaajlehmagljaaDoorOutNumber
import Derived.Test.YtiaajlehmagljaaDoorQ3
namespace Go.Proofs.YtiaajlehmagljaaDoor.B
open Go.RowKit Go.Proofs.YtiaajlehmagljaaDoor.Q Go.Proofs.YtiaajlehmagljaaDoorW.PrintWords Go.Proofs.YtiaajlehmagljaaDoorW.PrintLast Go.Proofs.YtiaajlehmagljaaDoorW.PrintMore

theorem dl_of (n : Nat) (h : n < 17) : dl (n : Int) = if n < 10 then [UInt8.ofNat (48 + n)] else [UInt8.ofNat (48 + n / 10), UInt8.ofNat (48 + n % 10)] := by
  have hd : ∀ m : Fin 17, dl (m.val : Int) = if m.val < 10 then [UInt8.ofNat (48 + m.val)] else [UInt8.ofNat (48 + m.val / 10), UInt8.ofNat (48 + m.val % 10)] := by decide +kernel
  exact hd ⟨n, h⟩
theorem itoa_dl (n : Nat) (h : n < 17) : Lib.itoa (n : Int) = dl (n : Int) := by
  rw [Lib.itoa_nonneg, dl_of n h]
  split
  · rename_i c
    exact Lib.decDigits_one c
  · rename_i c
    exact Lib.decDigits_two c (by omega)
theorem parse_dl (n : Nat) (h : n < 17) : Lib.parseIntB 64 (dl (n : Int)) = .ok (n : Int) := by
  have hd : ∀ m : Fin 17, Lib.parseIntB 64 (dl (m.val : Int)) = .ok (m.val : Int) := by decide +kernel
  exact hd ⟨n, h⟩
theorem num_impl (n : Int) (h0 : 0 ≤ n) (h1 : n ≤ 16) (most : Int) (h2 : n ≤ most) : numQ (BA (dl n)) most = (n, true) := by
  obtain ⟨m, rfl⟩ := Int.eq_ofNat_of_zero_le h0
  unfold numQ
  rw [BA_data, parse_dl m (by omega)]
  simp only
  rw [itoa_dl m (by omega)]
  exact if_pos ⟨rfl, h0, h2⟩
theorem num_in (s : ByteArray) (most : Int) (hm : 0 ≤ most) : 0 ≤ (numQ s most).1 ∧ (numQ s most).1 ≤ most := by
  unfold numQ
  split
  · split
    · rename_i h
      exact h.2
    · exact ⟨Int.le_refl _, hm⟩
  · exact ⟨Int.le_refl _, hm⟩
theorem num_f (l : List UInt8) (hl : l.length ≤ 1000000000) (most : Int) : impl_number.f (BA l) most = some (numQ (BA l) most) := by
  unfold impl_number.f
  rw [if_pos (by rw [BA_size]; omega)]
theorem num_spec (n : Int) (h0 : 0 ≤ n) (h1 : n ≤ 16) : Ev (fun k => spec_l01Number.f k (BA (dl n))) n := by
  have hd : ∀ m : Fin 17, spec_l01Number.f 5 (BA (dl (m.val : Int))) = some (m.val : Int) := by decide +kernel
  have := hd ⟨n.toNat, by omega⟩
  rw [show ((n.toNat : Nat) : Int) = n by omega] at this
  exact Ev.of (fun k => spec_l01Number.mono _ k) this
theorem num_l (l : List UInt8) (hl : l.length ≤ 1000000000) (d : Nat) : ∀ (x i : Int), 0 ≤ i → i + d = l.length → ∃ v, Ev (fun k => spec_l01Number.l0 k (BA l) x i) v := by
  induction d with
  | zero =>
    intro x i h0 hi
    refine ⟨x, evSucc (fun k => by rw [spec_l01Number.l0]) ?_⟩
    exact evF (by rw [BA_size]; omega) (evS _)
  | succ d ih =>
    intro x i h0 hi
    by_cases c1 : bt (BA l) i < 48
    · refine ⟨-1, evSucc (fun k => by rw [spec_l01Number.l0]) ?_⟩
      exact evT (by rw [BA_size]; omega) (evT h0 (evT c1 (evS _)))
    by_cases c2 : bt (BA l) i > 57
    · refine ⟨-1, evSucc (fun k => by rw [spec_l01Number.l0]) ?_⟩
      exact evT (by rw [BA_size]; omega) (evT h0 (evF c1 (evT c2 (evS _))))
    obtain ⟨v, hv⟩ := ih (wrap64 ((wrap64 (x * 10)) + (((bt (BA l) i) - 48) % 256))) (i + 1) (by omega) (by omega)
    refine ⟨v, evSucc (fun k => by rw [spec_l01Number.l0]) ?_⟩
    rw [wrap_in (x := i + 1) (by omega) (by omega)]
    exact evT (by rw [BA_size]; omega) (evT h0 (evF c1 (evF c2 hv)))
theorem num_any (l : List UInt8) (hl : l.length ≤ 1000000000) : ∃ v, Ev (fun k => spec_l01Number.f k (BA l)) v := by
  have hj : ∀ b, ∃ v, Ev (fun k => spec_l01Number.j0 k (BA l) b) v := by
    intro b
    cases b with
    | true =>
      exact ⟨-1, evSucc (fun k => by rw [spec_l01Number.j0]) (evT rfl (evS _))⟩
    | false =>
      obtain ⟨v, hv⟩ := num_l l hl l.length 0 0 (by omega) (by omega)
      exact ⟨v, evSucc (fun k => by rw [spec_l01Number.j0]) (evF (by decide) hv)⟩
  unfold spec_l01Number.f
  by_cases c1 : ((BA l).size : Int) = 0
  · obtain ⟨v, hv⟩ := hj true
    exact ⟨v, evT c1 hv⟩
  by_cases c2 : ((BA l).size : Int) > 9
  · obtain ⟨v, hv⟩ := hj true
    exact ⟨v, evF c1 (evT c2 hv)⟩
  by_cases c3 : ((BA l).size : Int) > 1
  · obtain ⟨v, hv⟩ := hj (bt (BA l) 0 == 48)
    exact ⟨v, evF c1 (evF c2 (evT c3 (evT (by omega) hv)))⟩
  · obtain ⟨v, hv⟩ := hj false
    exact ⟨v, evF c1 (evF c2 (evF c3 hv))⟩
/-! The nodes of a line, laid together. -/
def orL (x : Int) (ps : List Int) : Int := ps.foldl (fun x p => Go.bits .or .i64 x (shl .i64 1 p)) x
theorem dig_nat (a : Nat) (i : Nat) (ha : a < 65536) (h1 : i < 16) : nd (a : Int) (i : Int) = a.testBit i := by
  have r := shr_range (a : Int) (i : Int) (by omega) (by omega)
  unfold nd
  rw [bit01 _ r.1 r.2]
  unfold shr
  rw [show min ((i : Nat) : Int).toNat IntKind.i64.bits = i from by rw [Int.toNat_natCast]; exact Nat.min_eq_left (by have : IntKind.i64.bits = 64 := rfl; omega)]
  have e2 : ((2 : Int) ^ i) = ((2 ^ i : Nat) : Int) := by push_cast; rfl
  have e3 : (a : Int) / (2 : Int) ^ i % 2 = ((a / 2 ^ i % 2 : Nat) : Int) := by
    rw [e2]
    generalize 2 ^ i = m
    rw [Int.natCast_emod, Int.natCast_ediv]
    rfl
  rw [e3, Nat.testBit_eq_decide_div_mod_eq]
  rcases Nat.mod_two_eq_zero_or_one (a / 2 ^ i) with e | e <;> simp [e]
theorem or_on (x i : Nat) (hx : x < 65536) (hi : i < 16) : Go.bits .or .i64 (x : Int) (shl .i64 1 (i : Int)) = ((x ||| 2 ^ i : Nat) : Int) := by
  have hd : ∀ m : Fin 16, shl .i64 1 ((m.val : Nat) : Int) = ((2 ^ m.val : Nat) : Int) := by decide +kernel
  have e : shl .i64 1 (i : Int) = ((2 ^ i : Nat) : Int) := hd ⟨i, hi⟩
  rw [e]
  have k62 : (2 : Nat) ^ 62 = 4611686018427387904 := by decide
  refine or_nat x (2 ^ i) (by omega) (Nat.lt_of_le_of_lt (Nat.pow_le_pow_right (by decide) (show i ≤ 16 by omega)) (by decide))
theorem or_bit' (a i j : Nat) : (a ||| 2 ^ i).testBit j = (a.testBit j || decide (i = j)) := by rw [Nat.testBit_or, Nat.testBit_two_pow]
theorem mod_on (a i : Nat) (h : a.testBit i = true) : a % 2 ^ i ||| 2 ^ i = a % 2 ^ (i + 1) := by
  refine Nat.eq_of_testBit_eq (fun j => ?_)
  rw [or_bit', Nat.testBit_mod_two_pow, Nat.testBit_mod_two_pow]
  by_cases e : i = j
  · subst e
    simp [h]
  · by_cases hl : j < i
    · simp [hl, e, show j < i + 1 by omega]
    · simp [hl, e, show ¬ j < i + 1 by omega]
theorem mod_off (a i : Nat) (h : a.testBit i = false) : a % 2 ^ i = a % 2 ^ (i + 1) := by
  refine Nat.eq_of_testBit_eq (fun j => ?_)
  rw [Nat.testBit_mod_two_pow, Nat.testBit_mod_two_pow]
  by_cases e : i = j
  · subst e
    simp [h]
  · by_cases hl : j < i
    · simp [hl, show j < i + 1 by omega]
    · simp [hl, show ¬ j < i + 1 by omega]
theorem orL_seg (a : Nat) (ha : a < 65536) (d : Nat) : ∀ i : Nat, i + d = 16 → orL ((a % 2 ^ i : Nat) : Int) ((seg (i : Int) d).filter (nd (a : Int))) = (a : Int) := by
  induction d with
  | zero =>
    intro i hi
    obtain rfl : i = 16 := by omega
    rw [Nat.mod_eq_of_lt (by simpa using ha)]
    rfl
  | succ d ih =>
    intro i hi
    have h := ih (i + 1) (by omega)
    have hlt : a % 2 ^ i < 65536 := Nat.lt_of_le_of_lt (Nat.mod_le _ _) ha
    rw [seg, List.filter_cons, dig_nat a i ha (by omega), show (i : Int) + 1 = ((i + 1 : Nat) : Int) by omega]
    cases hb : a.testBit i with
    | true =>
      rw [if_pos rfl]
      show orL (Go.bits .or .i64 ((a % 2 ^ i : Nat) : Int) (shl .i64 1 (i : Int))) _ = _
      rw [or_on _ i hlt (by omega), mod_on a i hb]
      exact h
    | false =>
      rw [if_neg (by decide), mod_off a i hb]
      exact h
theorem orL_nds (s : Int) (h0 : 0 ≤ s) (h1 : s < 65536) : orL 0 (nds s) = s := by
  obtain ⟨a, rfl⟩ := Int.eq_ofNat_of_zero_le h0
  have := orL_seg a (by omega) 16 0 (by omega)
  rw [Nat.pow_zero, Nat.mod_one] at this
  exact this
theorem nds_ne (s : Int) (h0 : 1 ≤ s) (h1 : s < 65536) : nds s ≠ [] := by
  intro e
  have := orL_nds s (by omega) h1
  rw [e] at this
  have : (0 : Int) = s := this
  omega
/-! Texts without a letter, and the parts of joined texts. -/
theorem dl_mem (n : Int) (h0 : 0 ≤ n) (h1 : n ≤ 16) (c : UInt8) (h : c ∈ dl n) : 48 ≤ c.toNat ∧ c.toNat ≤ 57 := by
  obtain ⟨m, rfl⟩ := Int.eq_ofNat_of_zero_le h0
  have hd : ∀ m : Fin 17, (dl (m.val : Int)).all (fun c => decide (48 ≤ c.toNat ∧ c.toNat ≤ 57)) = true := by decide +kernel
  have := List.all_eq_true.1 (hd ⟨m, by omega⟩) c h
  exact of_decide_eq_true this
theorem join_mem (xs : List (List UInt8)) (sep : UInt8) (c : UInt8) (h : c ∈ Lib.join xs [sep]) : c = sep ∨ ∃ x ∈ xs, c ∈ x := by
  cases xs with
  | nil => rw [Lib.join_nil] at h; cases h
  | cons x r =>
    rw [Lib.join_cons] at h
    rcases List.mem_append.1 h with h | h
    · exact Or.inr ⟨x, List.mem_cons_self, h⟩
    · unfold Lib.joinTail at h
      obtain ⟨y, hy, hc⟩ := List.mem_flatten.1 h
      obtain ⟨z, hz, rfl⟩ := List.mem_map.1 hy
      rcases List.mem_append.1 hc with hc | hc
      · exact Or.inl (List.mem_singleton.1 hc)
      · exact Or.inr ⟨z, List.mem_cons_of_mem _ hz, hc⟩
theorem split_join (c : UInt8) : ∀ (r : List (List UInt8)) (x : List UInt8), c ∉ x → (∀ y ∈ r, c ∉ y) → splitQ c [] (Lib.join (x :: r) [c]) = x :: r
  | [], x, hx, _ => by
    rw [Lib.join_one, splitQ_no c x [] hx]
    rfl
  | y :: r, x, hx, hr => by
    have ih := split_join c r y (hr y List.mem_cons_self) (fun z hz => hr z (List.mem_cons_of_mem _ hz))
    have e : Lib.join (x :: y :: r) [c] = x ++ c :: Lib.join (y :: r) [c] := by
      rw [Lib.join_cons, Lib.join_cons, tail_cons]
      simp
    rw [e, splitQ_hit c x [] _ hx, ih]
    rfl
theorem lineT_mem (s : Int) (c : UInt8) (h : c ∈ lineT s) : c.toNat = 46 ∨ 48 ≤ c.toNat ∧ c.toNat ≤ 57 := by
  rcases join_mem _ _ _ h with rfl | ⟨x, hx, hc⟩
  · exact Or.inl rfl
  · obtain ⟨n, hn, rfl⟩ := List.mem_map.1 hx
    have := nds_in s n hn
    exact Or.inr (dl_mem n this.1 (by omega) c hc)
theorem split_line (s : Int) (h0 : 1 ≤ s) (h1 : s < 65536) : splitQ 46 [] (lineT s) = (nds s).map dl := by
  unfold lineT
  have hne := nds_ne s h0 h1
  have hin := nds_in s
  cases hN : nds s with
  | nil => exact absurd hN hne
  | cons p N =>
    rw [hN] at hin
    have hno : ∀ q, q ∈ p :: N → (46 : UInt8) ∉ dl q := fun q hq hm => by
      have h2 := hin q hq
      have h3 := dl_mem q h2.1 (by omega) 46 hm
      exact absurd h3.1 (by decide)
    rw [List.map_cons]
    exact split_join 46 _ _ (hno p List.mem_cons_self) (fun y hy => by
      obtain ⟨q, hq, rfl⟩ := List.mem_map.1 hy
      exact hno q (List.mem_cons_of_mem _ hq))
theorem split_board (L : List Int) (h : L ≠ []) : splitQ 44 [] (boardT L) = L.map lineT := by
  unfold boardT
  have hno : ∀ s, (44 : UInt8) ∉ lineT s := fun s hm => by
    rcases lineT_mem s 44 hm with h | h
    · exact absurd h (by decide)
    · exact absurd h.1 (by decide)
  cases L with
  | nil => exact absurd rfl h
  | cons s L =>
    rw [List.map_cons]
    exact split_join 44 _ _ (hno s) (fun y hy => by
      obtain ⟨q, _, rfl⟩ := List.mem_map.1 hy
      exact hno q)
theorem lineT_ne (s : Int) (h0 : 1 ≤ s) (h1 : s < 65536) : lineT s ≠ [] := by
  intro e
  have h := split_line s h0 h1
  rw [e] at h
  have hne := nds_ne s h0 h1
  have hin := nds_in s
  cases hN : nds s with
  | nil => exact absurd hN hne
  | cons p N =>
    rw [hN] at h hin
    have hp := hin p List.mem_cons_self
    have e1 : ([] : List UInt8) = dl p := (List.cons.inj (show [[]] = dl p :: N.map dl from h)).1
    obtain ⟨m, rfl⟩ := Int.eq_ofNat_of_zero_le hp.1
    rw [dl_of m (by omega)] at e1
    split at e1 <;> cases e1
theorem boardT_ne (L : List Int) (h : L ≠ []) (hs : ∀ s ∈ L, 1 ≤ s ∧ s < 65536) : boardT L ≠ [] := by
  cases L with
  | nil => exact absurd rfl h
  | cons s L =>
    intro e
    have h2 := hs s List.mem_cons_self
    unfold boardT at e
    rw [List.map_cons, Lib.join_cons] at e
    exact lineT_ne s h2.1 h2.2 (List.append_eq_nil_iff.1 e).1
theorem boardT_no (L : List Int) : (58 : UInt8) ∉ boardT L := by
  intro hm
  rcases join_mem _ _ _ hm with h | ⟨x, hx, hc⟩
  · exact absurd h (by decide)
  · obtain ⟨s, _, rfl⟩ := List.mem_map.1 hx
    rcases lineT_mem s 58 hc with h | h
    · exact absurd h (by decide)
    · exact absurd h.2 (by decide)
theorem dl_no (n : Int) (h0 : 0 ≤ n) (h1 : n ≤ 16) : (58 : UInt8) ∉ dl n := fun hm => absurd (dl_mem n h0 h1 58 hm).2 (by decide)
theorem split_text (n : Int) (L : List Int) (h0 : 0 ≤ n) (h1 : n ≤ 16) : splitQ 58 [] (txt n L) = [dl n, boardT L] := by
  unfold txt
  rw [List.append_assoc]
  show splitQ 58 [] (dl n ++ 58 :: boardT L) = _
  rw [splitQ_hit 58 _ [] _ (dl_no n h0 h1), splitQ_no 58 _ [] (boardT_no L)]
  rfl
theorem cut_text (n : Int) (L : List Int) (h0 : 0 ≤ n) (h1 : n ≤ 16) : Lib.cut (txt n L) [58] = (dl n, boardT L, true) := by
  have hi : Lib.index (txt n L) [58] = (dl n).length := by
    rw [Lib.index_one]
    unfold txt
    have : ∀ xs0 : List UInt8, (58 : UInt8) ∉ xs0 → Lib.indexByte ((xs0 ++ [58]) ++ boardT L) 58 = xs0.length := by
      intro xs0
      induction xs0 with
      | nil => intro _; simp [Lib.indexByte]
      | cons x xs ihx =>
        intro hx
        have h1 : ¬ x = 58 := fun e => hx (by simp [e])
        have h2 := ihx (fun hh => hx (by simp [hh]))
        rw [List.cons_append, List.cons_append, Lib.indexByte, if_neg (by simpa using h1), h2, if_neg (by simp)]
        simp
    exact this _ (dl_no n h0 h1)
  unfold Lib.cut
  rw [hi, if_pos (by omega), Int.toNat_natCast]
  unfold txt
  rw [List.append_assoc, List.take_left]
  congr 1
  rw [← List.append_assoc, show (dl n).length + ([58] : List UInt8).length = (dl n ++ [58]).length by simp, List.drop_left]
theorem cut_len (l : List UInt8) : (Lib.cut l [58]).1.length ≤ l.length ∧ (Lib.cut l [58]).2.1.length ≤ l.length := by
  unfold Lib.cut
  split
  · simp only [List.length_take, List.length_drop]
    omega
  · simp
end Go.Proofs.YtiaajlehmagljaaDoor.B
