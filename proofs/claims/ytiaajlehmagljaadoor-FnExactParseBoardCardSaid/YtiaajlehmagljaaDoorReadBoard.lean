/-
  Plain: of a board's text both read the board; of another text neither does. Texts of at most 1,048,576 letters.
-/
import Derived.Test.YtiaajlehmagljaaDoorNumText
import Derived.Test.YtiaajlehmagljaaDoorQ3
import Derived.Test.YtiaajlehmagljaaDoorQ6
namespace Go.Proofs.YtiaajlehmagljaaDoor.B
open Go.RowKit Go.Proofs.YtiaajlehmagljaaDoor.Q Go.Proofs.YtiaajlehmagljaaDoorW.PrintWords Go.Proofs.YtiaajlehmagljaaDoorW.PrintLast Go.Proofs.YtiaajlehmagljaaDoorW.PrintMore

theorem rdOf_row (rs : List (List UInt8)) (j : Int) (h0 : 0 ≤ j) (h : j < rs.length) : rdOf ByteArray.empty (rs.map BA) j = BA (rs[j.toNat]'(by omega)) := by
  unfold rdOf
  rw [List.getD_eq_getElem?_getD, List.getElem?_map, List.getElem?_eq_getElem (by omega)]
  rfl
theorem BA_nil (r : List UInt8) : (BA r).toList = [] ↔ r = [] := by rw [BA_toList]
theorem board_in (n : Int) (L : List Int) (hb : boardB n L = true) (s : Int) (hs : s ∈ L) : 1 ≤ s ∧ s < 65536 := by
  obtain ⟨hn, hL, h⟩ := (boardB_iff n L).1 hb
  obtain ⟨j, hj, rfl⟩ := List.getElem_of_mem hs
  have h1 := (h (j : Int) (by omega) (by omega)).1
  have h2 := (full_shl n hn).2.2.1
  rw [rd_at L (j : Int) (by omega) (by omega)] at h1
  simp only [Int.toNat_natCast] at h1
  omega
section
variable {l : List UInt8}
/-- The nodes of a line, read by the reference. -/
theorem nodes_any (rows : List ByteArray) (i n : Int) (L : List Int) (P : List (List UInt8)) (hP : ∀ p ∈ P, p.length ≤ 1000000000) (hPl : P.length ≤ 1000000000) (hLl : L.length ≤ 1000000000) (hi : 0 ≤ i ∧ i ≤ 1000000000) (d : Nat) : ∀ (k x : Int), 0 ≤ k → k + d = P.length →
    Ev (fun q => spec_l07Read.l1 q (BA l) rows i x (P.map BA) k n L) (0, [], false) ∨ ∃ x', ∀ res, Ev (fun q => spec_l07Read.l0 q (BA l) rows (i + 1) n (L ++ [x'])) res → Ev (fun q => spec_l07Read.l1 q (BA l) rows i x (P.map BA) k n L) res := by
  induction d with
  | zero =>
    intro k x h0 hk
    right
    refine ⟨x, fun res hE => evSucc (fun q => by rw [spec_l07Read.l1]) ?_⟩
    rw [wrap_in (x := i + 1) (by omega) (by omega)]
    exact evF (by rw [List.length_map]; omega) (evT (by omega) hE)
  | succ d ih =>
    intro k x h0 hk
    have hlt : k.toNat < P.length := by omega
    obtain ⟨v, hv⟩ := num_any (P[k.toNat]) (hP _ (List.getElem_mem _))
    by_cases c : 0 ≤ v ∧ v ≤ 15
    · have hu : IntKind.u64.wrap v = v := u64_in _ (by omega) (by omega)
      have go : ∀ res, Ev (fun q => spec_l07Read.l1 q (BA l) rows i (Go.bits .or .i64 x (shl .i64 1 v)) (P.map BA) (k + 1) n L) res → Ev (fun q => spec_l07Read.l1 q (BA l) rows i x (P.map BA) k n L) res := by
        intro res hE
        refine evSucc (fun q => by rw [spec_l07Read.l1]) ?_
        rw [rdOf_row P k h0 (by omega), wrap_in (x := k + 1) (by omega) (by omega)]
        refine evT (by rw [List.length_map]; omega) (evT h0 (evB hv (evG (l01In_eq v 0 15) (evT (decide_eq_true c) ?_))))
        rw [hu]
        exact evT c.1 hE
      rcases ih (k + 1) (Go.bits .or .i64 x (shl .i64 1 v)) (by omega) (by omega) with h | ⟨x', h⟩
      · exact Or.inl (go _ h)
      · exact Or.inr ⟨x', fun res hE => go res (h res hE)⟩
    · left
      refine evSucc (fun q => by rw [spec_l07Read.l1]) ?_
      rw [rdOf_row P k h0 (by omega)]
      exact evT (by rw [List.length_map]; omega) (evT h0 (evB hv (evG (l01In_eq v 0 15) (evF (by rw [decide_eq_false c]; decide) (evS _)))))
theorem nodes_exact (rows : List ByteArray) (i n : Int) (L : List Int) (N : List Int) (hN : N.length ≤ 16) (hin : ∀ p ∈ N, 0 ≤ p ∧ p < 16) (hLl : L.length ≤ 1000000000) (hi : 0 ≤ i ∧ i ≤ 1000000000) (res : Int × List Int × Bool) (d : Nat) : ∀ (k : Nat) (x : Int), k + d = N.length →
    Ev (fun q => spec_l07Read.l0 q (BA l) rows (i + 1) n (L ++ [orL x (N.drop k)])) res → Ev (fun q => spec_l07Read.l1 q (BA l) rows i x ((N.map dl).map BA) (k : Int) n L) res := by
  induction d with
  | zero =>
    intro k x hk hE
    rw [List.drop_eq_nil_of_le (by omega)] at hE
    refine evSucc (fun q => by rw [spec_l07Read.l1]) ?_
    rw [wrap_in (x := i + 1) (by omega) (by omega)]
    exact evF (by rw [List.length_map, List.length_map]; omega) (evT (by omega) hE)
  | succ d ih =>
    intro k x hk hE
    have hlt : k < N.length := by omega
    have hp := hin (N[k]) (List.getElem_mem _)
    rw [List.drop_eq_getElem_cons hlt] at hE
    have := ih (k + 1) (Go.bits .or .i64 x (shl .i64 1 (N[k]))) (by omega) hE
    have hu : IntKind.u64.wrap (N[k]) = N[k] := u64_in _ (by omega) (by omega)
    refine evSucc (fun q => by rw [spec_l07Read.l1]) ?_
    rw [rdOf_row (N.map dl) (k : Int) (by omega) (by rw [List.length_map]; omega), wrap_in (x := (k : Int) + 1) (by omega) (by omega), show (k : Int) + 1 = ((k + 1 : Nat) : Int) by omega]
    simp only [Int.toNat_natCast, List.getElem_map]
    refine evT (by rw [List.length_map, List.length_map]; omega) (evT (by omega) (evB (num_spec _ hp.1 (by omega)) (evG (l01In_eq _ 0 15) (evT (decide_eq_true (by omega)) ?_))))
    rw [hu]
    exact evT hp.1 this
theorem read_end (n : Int) (L : List Int) (hL : L.length ≤ 1000000000) : (Ev (fun q => (spec_l07Is.f q n L).bind fun t232 => (if t232 = true then ((spec_l07Text.f q n L).bind fun t233 => (some (n, L, (t233.toList == (BA l).toList)))) else (some (n, L, false)))) (n, L, false)) ∨ (boardB n L = true ∧ l = txt n L) := by
  cases hb : boardB n L with
  | false =>
    left
    have h := board_spec n L (by omega)
    rw [hb] at h
    exact evB h (evF (by decide) (evS _))
  | true =>
    by_cases e : txt n L = l
    · exact Or.inr ⟨rfl, e.symm⟩
    · left
      have h := board_spec n L (by omega)
      rw [hb] at h
      refine evB h (evT rfl (evB (text_spec n L hb) (evE ?_ (evS _))))
      rw [BA_toList, BA_toList, beq_eq_false_iff_ne.mpr e]
theorem read_good (n : Int) (L : List Int) (hb : boardB n L = true) : Ev (fun q => (spec_l07Is.f q n L).bind fun t232 => (if t232 = true then ((spec_l07Text.f q n L).bind fun t233 => (some (n, L, (t233.toList == (BA (txt n L)).toList)))) else (some (n, L, false)))) (n, L, true) := by
  obtain ⟨_, hL, _⟩ := (boardB_iff n L).1 hb
  have h := board_spec n L (by omega)
  rw [hb] at h
  refine evB h (evT rfl (evB (text_spec n L hb) (evE ?_ (evS _))))
  simp
theorem rows_any (n : Int) (R : List (List UInt8)) (hR : ∀ p ∈ R, p.length ≤ 100000000) (hRl : R.length ≤ 100000000) (d : Nat) : ∀ (i : Int) (L : List Int), 0 ≤ i → i + d = R.length → L.length ≤ i →
    (∃ x1 x2, Ev (fun q => spec_l07Read.l0 q (BA l) (R.map BA) i n L) (x1, x2, false)) ∨ ∃ L', boardB n L' = true ∧ l = txt n L' := by
  induction d with
  | zero =>
    intro i L h0 hi hL
    rcases read_end (l := l) n L (by omega) with h | h
    · left
      refine ⟨n, L, evSucc (fun q => by rw [spec_l07Read.l0]) ?_⟩
      exact evF (by rw [List.length_map]; omega) h
    · exact Or.inr ⟨L, h⟩
  | succ d ih =>
    intro i L h0 hi hL
    have hlt : i.toNat < R.length := by omega
    have hr := hR _ (List.getElem_mem hlt)
    have hsp := split_spec 46 (R[i.toNat]) (by omega)
    have hsz := splitQ_sizes 46 100000000 (R[i.toNat]) [] (by simp; omega)
    have hln : (splitQ 46 [] (R[i.toNat])).length ≤ 100000001 := by
      rw [splitQ_len]
      have : (R[i.toNat]).count 46 ≤ (R[i.toNat]).length := List.count_le_length
      omega
    have go : ∀ res, Ev (fun q => spec_l07Read.l1 q (BA l) (R.map BA) i 0 ((splitQ 46 [] (R[i.toNat])).map BA) 0 n L) res → Ev (fun q => spec_l07Read.l0 q (BA l) (R.map BA) i n L) res := by
      intro res hE
      refine evSucc (fun q => by rw [spec_l07Read.l0]) ?_
      rw [rdOf_row R i h0 (by omega)]
      exact evT (by rw [List.length_map]; omega) (evT h0 (evB hsp hE))
    rcases nodes_any (l := l) (R.map BA) i n L _ (fun p hp => Nat.le_trans (hsz p hp) (by decide)) (by omega) (by omega) ⟨h0, by omega⟩ (splitQ 46 [] (R[i.toNat])).length 0 0 (by omega) (by omega) with h | ⟨x', h⟩
    · exact Or.inl ⟨_, _, go _ h⟩
    · rcases ih (i + 1) (L ++ [x']) (by omega) (by omega) (by rw [List.length_append, List.length_singleton]; omega) with ⟨x1, x2, h2⟩ | h2
      · exact Or.inl ⟨x1, x2, go _ (h _ h2)⟩
      · exact Or.inr h2
theorem rows_exact (n : Int) (L : List Int) (hb : boardB n L = true) (d : Nat) : ∀ i : Nat, i + d = L.length → Ev (fun q => spec_l07Read.l0 q (BA (txt n L)) ((L.map lineT).map BA) (i : Int) n (L.take i)) (n, L, true) := by
  obtain ⟨_, hLl, _⟩ := (boardB_iff n L).1 hb
  induction d with
  | zero =>
    intro i hi
    rw [List.take_of_length_le (by omega)]
    refine evSucc (fun q => by rw [spec_l07Read.l0]) ?_
    exact evF (by rw [List.length_map, List.length_map]; omega) (read_good n L hb)
  | succ d ih =>
    intro i hi
    have hlt : i < L.length := by omega
    have hs := board_in n L hb (L[i]) (List.getElem_mem hlt)
    have h := ih (i + 1) (by omega)
    rw [List.take_add_one, List.getElem?_eq_getElem hlt] at h
    have hll := lineT_len (L[i])
    refine evSucc (fun q => by rw [spec_l07Read.l0]) ?_
    rw [rdOf_row (L.map lineT) (i : Int) (by omega) (by rw [List.length_map]; omega)]
    simp only [Int.toNat_natCast, List.getElem_map]
    have hsp := split_spec 46 (lineT (L[i])) (by omega)
    rw [split_line _ hs.1 hs.2] at hsp
    refine evT (by rw [List.length_map, List.length_map]; omega) (evT (by omega) (evB hsp ?_))
    refine nodes_exact _ (i : Int) n (L.take i) (nds (L[i])) (nds_len _) (nds_in _) (by rw [List.length_take]; omega) (by omega) _ (nds (L[i])).length 0 0 (by omega) ?_
    rw [List.drop_zero, orL_nds _ (by omega) hs.2, show (i : Int) + 1 = ((i + 1 : Nat) : Int) by omega]
    exact h
theorem spec_any (l : List UInt8) (hl : l.length ≤ 10000000) : (∃ x1 x2, Ev (fun k => spec_l07Read.f k (BA l)) (x1, x2, false)) ∨ ∃ n L, boardB n L = true ∧ l = txt n L := by
  unfold spec_l07Read.f
  have hsp := split_spec 58 l (by omega)
  have hsz := splitQ_sizes 58 10000000 l [] (by simp; omega)
  generalize splitQ 58 [] l = sides at hsp hsz
  by_cases c : ((sides.map BA).length : Int) = 2
  rotate_left
  · exact Or.inl ⟨0, [], evB hsp (evF c (evS _))⟩
  have hlen : sides.length = 2 := by rw [List.length_map] at c; omega
  obtain ⟨a, b, rfl⟩ : ∃ a b, sides = [a, b] := by
    match sides, hlen with
    | [a, b], _ => exact ⟨a, b, rfl⟩
  have ha := hsz a (by simp)
  have hbl := hsz b (by simp)
  obtain ⟨n, hn⟩ := num_any a (by omega)
  have e0 : rdOf ByteArray.empty ([a, b].map BA) 0 = BA a := rfl
  have e1 : rdOf ByteArray.empty ([a, b].map BA) 1 = BA b := rfl
  have go : ∀ res, Ev (fun k => (if (BA b).toList = ([] : List UInt8) then ((spec_l07Is.f k n []).bind fun t226 => (if t226 = true then ((spec_l07Text.f k n []).bind fun t227 => (some (n, ([] : List Int), (t227.toList == (BA l).toList)))) else (some (n, ([] : List Int), false)))) else ((spec_l01Split.f k (BA b) 44).bind fun t229 => (spec_l07Read.l0 k (BA l) t229 0 n [])))) res →
      Ev (fun k => (spec_l01Split.f k (BA l) 58).bind fun t216 => (if (t216.length : Int) = 2 then (if 0 < (t216.length : Int) then ((spec_l01Number.f k (rdOf ByteArray.empty t216 0)).bind fun t220 => ((some (([] : List Int) : List Int)).bind fun y221 => (if 1 < (t216.length : Int) then (if (rdOf ByteArray.empty t216 1).toList = ([] : List UInt8) then ((spec_l07Is.f k t220 y221).bind fun t226 => (if t226 = true then ((spec_l07Text.f k t220 y221).bind fun t227 => (some (t220, y221, (t227.toList == (BA l).toList)))) else (some (t220, y221, false)))) else ((spec_l01Split.f k (rdOf ByteArray.empty t216 1) 44).bind fun t229 => (spec_l07Read.l0 k (BA l) t229 0 t220 y221))) else (none)))) else (none)) else (some (0, ([] : List Int), false)))) res := by
    intro res hE
    refine evB hsp (evT c (evT (by omega) ?_))
    rw [e0]
    refine evB hn (evG rfl (evT (by omega) ?_))
    rw [e1]
    exact hE
  by_cases cb : b = []
  · rcases read_end (l := l) n [] (by simp) with h | h
    · exact Or.inl ⟨n, [], go _ (evT ((BA_nil b).2 cb) h)⟩
    · exact Or.inr ⟨n, [], h⟩
  · have hsp2 := split_spec 44 b (by omega)
    have hsz2 := splitQ_sizes 44 10000000 b [] (by simp; omega)
    have hln : (splitQ 44 [] b).length ≤ 10000001 := by
      rw [splitQ_len]
      have : b.count 44 ≤ b.length := List.count_le_length
      omega
    rcases rows_any (l := l) n (splitQ 44 [] b) (fun p hp => Nat.le_trans (hsz2 p hp) (by decide)) (by omega) (splitQ 44 [] b).length 0 [] (by omega) (by omega) (by simp) with ⟨x1, x2, h⟩ | ⟨L', h⟩
    · exact Or.inl ⟨x1, x2, go _ (evF (fun e => cb ((BA_nil b).1 e)) (evB hsp2 h))⟩
    · exact Or.inr ⟨n, L', h⟩
theorem spec_reads (n : Int) (L : List Int) (hb : boardB n L = true) : Ev (fun k => spec_l07Read.f k (BA (txt n L))) (n, L, true) := by
  obtain ⟨hn, hLl, _⟩ := (boardB_iff n L).1 hb
  have hlen := txt_len n L hb
  unfold spec_l07Read.f
  have hsp := split_spec 58 (txt n L) (by omega)
  rw [split_text n L (by omega) (by omega)] at hsp
  have e0 : rdOf ByteArray.empty ([dl n, boardT L].map BA) 0 = BA (dl n) := rfl
  have e1 : rdOf ByteArray.empty ([dl n, boardT L].map BA) 1 = BA (boardT L) := rfl
  refine evB hsp (evT rfl (evT (by simp) ?_))
  rw [e0]
  refine evB (num_spec n (by omega) (by omega)) (evG rfl (evT (by simp) ?_))
  rw [e1]
  by_cases cb : L = []
  · subst cb
    exact evT ((BA_nil _).2 rfl) (read_good n [] hb)
  · have hne := boardT_ne L cb (board_in n L hb)
    have hbl := boardT_len L hLl
    have hsp2 := split_spec 44 (boardT L) (by omega)
    rw [split_board L cb] at hsp2
    refine evF (fun e => hne ((BA_nil _).1 e)) (evB hsp2 ?_)
    have := rows_exact n L hb L.length 0 (by omega)
    simpa using this
/-! The program. -/
theorem numbers_l (P : List (List UInt8)) (hP : ∀ p ∈ P, p.length ≤ 1000000000) (hPl : P.length ≤ 1000000000) (d : Nat) : ∀ (k : Int) (x : List Int), 0 ≤ k → k + d = P.length → x.length ≤ k → (∀ p ∈ x, 0 ≤ p ∧ p ≤ 15) →
    ∃ ps b, Ev (fun q => impl_numbersOf.l0 q 15 x (P.map BA) (((P.map BA).length : Nat) : Int) k) (ps, b) ∧ (∀ p ∈ ps, 0 ≤ p ∧ p ≤ 15) ∧ ps.length ≤ P.length := by
  induction d with
  | zero =>
    intro k x h0 hk hx hin
    refine ⟨x, true, evSucc (fun q => by rw [impl_numbersOf.l0]) ?_, hin, by omega⟩
    exact evF (by rw [List.length_map]; omega) (evS _)
  | succ d ih =>
    intro k x h0 hk hx hin
    have hlt : k.toNat < P.length := by omega
    have hnf := num_f (P[k.toNat]) (hP _ (List.getElem_mem _)) 15
    have hni := num_in (BA (P[k.toNat])) 15 (by decide)
    generalize numQ (BA (P[k.toNat])) 15 = r at hnf hni
    cases hb : r.2 with
    | false =>
      refine ⟨[], false, evSucc (fun q => by rw [impl_numbersOf.l0]) ?_, by simp, by simp⟩
      rw [rdOf_row P k h0 (by omega)]
      exact evT (by rw [List.length_map]; omega) (evT h0 (evT (by rw [List.length_map]; omega) (evG hnf (evF (by rw [hb]; decide) (evS _)))))
    | true =>
      obtain ⟨ps, b, h1, h2, h3⟩ := ih (k + 1) (x ++ [r.1]) (by omega) (by omega) (by rw [List.length_append, List.length_singleton]; omega) (by
        intro p hp
        rcases List.mem_append.1 hp with hp | hp
        · exact hin p hp
        · rw [List.mem_singleton.1 hp]; exact hni)
      refine ⟨ps, b, evSucc (fun q => by rw [impl_numbersOf.l0]) ?_, h2, h3⟩
      rw [rdOf_row P k h0 (by omega), wrap_in (x := k + 1) (by omega) (by omega)]
      exact evT (by rw [List.length_map]; omega) (evT h0 (evT (by rw [List.length_map]; omega) (evG hnf (evT hb (evT (by omega) h1)))))
theorem numbers_any (w : List UInt8) (hw : w.length ≤ 10000000) : ∃ ps b, Ev (fun q => impl_numbersOf.f q (BA w) (⟨#[46]⟩ : ByteArray) 15) (ps, b) ∧ (∀ p ∈ ps, 0 ≤ p ∧ p ≤ 15) ∧ ps.length ≤ 10000001 := by
  unfold impl_numbersOf.f
  by_cases c : w = []
  · exact ⟨[], true, evG rfl (evT ((BA_nil w).2 c) (evS _)), by simp, by simp⟩
  · have hsf : strings_Split.f (BA w) (⟨#[46]⟩ : ByteArray) = some ((splitQ 46 [] w).map BA) := by
      unfold strings_Split.f
      rw [if_pos (by rw [BA_size]; omega), if_neg (by decide), if_pos rfl, parts_eq]
    have hsz := splitQ_sizes 46 10000000 w [] (by simp; omega)
    have hln : (splitQ 46 [] w).length ≤ 10000001 := by
      rw [splitQ_len]
      have : w.count 46 ≤ w.length := List.count_le_length
      omega
    obtain ⟨ps, b, h1, h2, h3⟩ := numbers_l (splitQ 46 [] w) (fun p hp => Nat.le_trans (hsz p hp) (by decide)) (by omega) (splitQ 46 [] w).length 0 [] (by omega) (by omega) (by simp) (by simp)
    exact ⟨ps, b, evG rfl (evF (fun e => c ((BA_nil w).1 e)) (evG hsf h1)), h2, by omega⟩
theorem numbers_exact_l (N : List Int) (hN : N.length ≤ 16) (hin : ∀ p ∈ N, 0 ≤ p ∧ p < 16) (d : Nat) : ∀ k : Nat, k + d = N.length →
    Ev (fun q => impl_numbersOf.l0 q 15 (N.take k) ((N.map dl).map BA) ((((N.map dl).map BA).length : Nat) : Int) (k : Int)) (N, true) := by
  induction d with
  | zero =>
    intro k hk
    rw [List.take_of_length_le (by omega)]
    refine evSucc (fun q => by rw [impl_numbersOf.l0]) ?_
    exact evF (by rw [List.length_map, List.length_map]; omega) (evS _)
  | succ d ih =>
    intro k hk
    have hlt : k < N.length := by omega
    have hp := hin (N[k]) (List.getElem_mem _)
    have h := ih (k + 1) (by omega)
    rw [List.take_add_one, List.getElem?_eq_getElem hlt] at h
    have hl := dec_len (N[k]) hp.1 (by omega)
    have hnf := num_f (dl (N[k])) (by omega) 15
    rw [num_impl (N[k]) hp.1 (by omega) 15 (by omega)] at hnf
    refine evSucc (fun q => by rw [impl_numbersOf.l0]) ?_
    rw [rdOf_row (N.map dl) (k : Int) (by omega) (by rw [List.length_map]; omega), wrap_in (x := (k : Int) + 1) (by omega) (by omega), show (k : Int) + 1 = ((k + 1 : Nat) : Int) by omega]
    simp only [Int.toNat_natCast, List.getElem_map]
    exact evT (by rw [List.length_map, List.length_map]; omega) (evT (by omega) (evT (by rw [List.length_map, List.length_map]; omega) (evG hnf (evT rfl (evT (by rw [List.length_take]; omega) h)))))
theorem numbers_exact (s : Int) (h0 : 1 ≤ s) (h1 : s < 65536) : Ev (fun q => impl_numbersOf.f q (BA (lineT s)) (⟨#[46]⟩ : ByteArray) 15) (nds s, true) := by
  have hl := lineT_len s
  unfold impl_numbersOf.f
  have hsf : strings_Split.f (BA (lineT s)) (⟨#[46]⟩ : ByteArray) = some (((nds s).map dl).map BA) := by
    unfold strings_Split.f
    rw [if_pos (by rw [BA_size]; omega), if_neg (by decide), if_pos rfl, parts_eq, split_line s h0 h1]
  have := numbers_exact_l (nds s) (nds_len s) (nds_in s) (nds s).length 0 (by omega)
  exact evG rfl (evF (fun e => lineT_ne s h0 h1 ((BA_nil _).1 e)) (evG hsf (by simpa using this)))
theorem lay_l (rest : ByteArray) (rows : List ByteArray) (z i n : Int) (L : List Int) (ps : List Int) (hps : ps.length ≤ 1000000000) (hin : ∀ p ∈ ps, 0 ≤ p) (hL : L.length ≤ 1000000000) (hi : 0 ≤ i ∧ i ≤ 1000000000) (res : Int × List Int × Int) (d : Nat) : ∀ (k : Nat) (x : Int), k + d = ps.length →
    Ev (fun q => impl_ParseBoard.l0 q (BA l) rest rows z (i + 1) n (if rest.toList = ([] : List UInt8) then L else L ++ [orL x (ps.drop k)])) res → Ev (fun q => impl_ParseBoard.l1 q (BA l) rest x rows z i ps (ps.length : Int) (k : Int) n L) res := by
  induction d with
  | zero =>
    intro k x hk hE
    rw [List.drop_eq_nil_of_le (by omega)] at hE
    refine evSucc (fun q => by rw [impl_ParseBoard.l1]) ?_
    rw [wrap_in (x := i + 1) (by omega) (by omega)]
    refine evF (by omega) ?_
    by_cases c : rest.toList = ([] : List UInt8)
    · rw [if_pos c] at hE
      exact evT c hE
    · rw [if_neg c] at hE
      exact evF c (evT (by omega) hE)
  | succ d ih =>
    intro k x hk hE
    have hlt : k < ps.length := by omega
    have e : rd ps (k : Int) = ps[k] := by
      rw [rd_at ps (k : Int) (by omega) (by omega)]
      simp
    rw [List.drop_eq_getElem_cons hlt] at hE
    have h := ih (k + 1) (Go.bits .or .i64 x (shl .i64 1 (ps[k]))) (by omega) hE
    refine evSucc (fun q => by rw [impl_ParseBoard.l1]) ?_
    rw [wrap_in (x := (k : Int) + 1) (by omega) (by omega), show (k : Int) + 1 = ((k + 1 : Nat) : Int) by omega, e]
    exact evT (by omega) (evT (by omega) (evT (by omega) (evT (hin _ (List.getElem_mem _)) h)))
theorem impl_end (n : Int) (L : List Int) (hL : L.length ≤ 1000000000) (hn : ∀ n L, boardB n L = true → l ≠ txt n L) :
    Ev (fun q => (impl_BoardText.f q n L).bind fun bt273 => (if bt273.2 = 0 then (if bt273.1.toList = (BA l).toList then (some (n, L, (0 : Int))) else (some ((0 : Int), ([] : List Int), (6 : Int)))) else (some ((0 : Int), ([] : List Int), (6 : Int))))) (0, [], 6) := by
  cases hb : boardB n L with
  | false => exact evB (text_no n L (by omega) hb) (evF (by decide) (evS _))
  | true =>
    refine evB (text_impl n L hb) (evT rfl (evF ?_ (evS _)))
    rw [BA_toList, BA_toList]
    exact fun e => hn n L hb e.symm
theorem impl_good (n : Int) (L : List Int) (hb : boardB n L = true) :
    Ev (fun q => (impl_BoardText.f q n L).bind fun bt273 => (if bt273.2 = 0 then (if bt273.1.toList = (BA (txt n L)).toList then (some (n, L, (0 : Int))) else (some ((0 : Int), ([] : List Int), (6 : Int)))) else (some ((0 : Int), ([] : List Int), (6 : Int))))) (n, L, 0) :=
  evB (text_impl n L hb) (evT rfl (evT rfl (evS _)))
theorem irows_any (rest : ByteArray) (n : Int) (R : List (List UInt8)) (hR : ∀ p ∈ R, p.length ≤ 10000000) (hRl : R.length ≤ 100000000) (hn : ∀ n L, boardB n L = true → l ≠ txt n L) (d : Nat) : ∀ (i : Int) (L : List Int), 0 ≤ i → i + d = R.length → L.length ≤ i →
    Ev (fun q => impl_ParseBoard.l0 q (BA l) rest (R.map BA) (((R.map BA).length : Nat) : Int) i n L) (0, [], 6) := by
  induction d with
  | zero =>
    intro i L h0 hi hL
    refine evSucc (fun q => by rw [impl_ParseBoard.l0]) ?_
    exact evF (by rw [List.length_map]; omega) (impl_end n L (by omega) hn)
  | succ d ih =>
    intro i L h0 hi hL
    have hlt : i.toNat < R.length := by omega
    obtain ⟨ps, b, h1, h2, h3⟩ := numbers_any (R[i.toNat]) (hR _ (List.getElem_mem hlt))
    refine evSucc (fun q => by rw [impl_ParseBoard.l0]) ?_
    rw [rdOf_row R i h0 (by omega)]
    refine evT (by rw [List.length_map]; omega) (evT h0 (evT (by rw [List.length_map]; omega) (evB h1 ?_)))
    refine lay_l (l := l) rest (R.map BA) _ i n L ps (by omega) (fun p hp => (h2 p hp).1) (by omega) ⟨h0, by omega⟩ _ ps.length 0 0 (by omega) ?_
    refine ih (i + 1) _ (by omega) (by omega) ?_
    split
    · omega
    · rw [List.length_append, List.length_singleton]; omega
theorem irows_exact (n : Int) (L : List Int) (hb : boardB n L = true) (rest : ByteArray) (hne : rest.toList ≠ []) (d : Nat) : ∀ i : Nat, i + d = L.length →
    Ev (fun q => impl_ParseBoard.l0 q (BA (txt n L)) rest ((L.map lineT).map BA) ((((L.map lineT).map BA).length : Nat) : Int) (i : Int) n (L.take i)) (n, L, 0) := by
  obtain ⟨_, hLl, _⟩ := (boardB_iff n L).1 hb
  induction d with
  | zero =>
    intro i hi
    rw [List.take_of_length_le (by omega)]
    refine evSucc (fun q => by rw [impl_ParseBoard.l0]) ?_
    exact evF (by rw [List.length_map, List.length_map]; omega) (impl_good n L hb)
  | succ d ih =>
    intro i hi
    have hlt : i < L.length := by omega
    have hs := board_in n L hb (L[i]) (List.getElem_mem hlt)
    have h := ih (i + 1) (by omega)
    rw [List.take_add_one, List.getElem?_eq_getElem hlt] at h
    refine evSucc (fun q => by rw [impl_ParseBoard.l0]) ?_
    rw [rdOf_row (L.map lineT) (i : Int) (by omega) (by rw [List.length_map]; omega)]
    simp only [Int.toNat_natCast, List.getElem_map]
    have hnl := nds_len (L[i])
    refine evT (by rw [List.length_map, List.length_map]; omega) (evT (by omega) (evT (by rw [List.length_map, List.length_map]; omega) (evB (numbers_exact _ hs.1 hs.2) ?_)))
    refine lay_l (l := txt n L) rest _ _ (i : Int) n (L.take i) (nds (L[i])) (by omega) (fun p hp => (nds_in _ p hp).1) (by rw [List.length_take]; omega) (by omega) _ (nds (L[i])).length 0 0 (by omega) ?_
    rw [if_neg hne, List.drop_zero, orL_nds _ (by omega) hs.2, show (i : Int) + 1 = ((i + 1 : Nat) : Int) by omega]
    exact h
theorem cut_f (l : List UInt8) (hl : l.length ≤ 10000000) : strings_Cut.f (BA l) (⟨#[58]⟩ : ByteArray) = some (BA (Lib.cut l [58]).1, BA (Lib.cut l [58]).2.1, (Lib.cut l [58]).2.2) := by
  unfold strings_Cut.f
  rw [if_pos ⟨by rw [BA_size]; omega, rfl⟩, BA_data]
  rfl
theorem split44 (w : List UInt8) (hw : w.length ≤ 10000000) : strings_Split.f (BA w) (⟨#[44]⟩ : ByteArray) = some ((splitQ 44 [] w).map BA) := by
  unfold strings_Split.f
  rw [if_pos (by rw [BA_size]; omega), if_pos rfl, parts_eq]
theorem impl_none (l : List UInt8) (hl : l.length ≤ 10000000) (hn : ∀ n L, boardB n L = true → l ≠ txt n L) : Ev (fun k => impl_ParseBoard.f k (BA l)) (0, [], 6) := by
  have hc := cut_f l hl
  have hcl := cut_len l
  unfold impl_ParseBoard.f
  generalize Lib.cut l [58] = ct at hc hcl
  have hnf := num_f ct.1 (by omega) 16
  have hsz2 := splitQ_sizes 44 10000000 ct.2.1 [] (by simp; omega)
  have hln : (splitQ 44 [] ct.2.1).length ≤ 10000001 := by
    rw [splitQ_len]
    have : ct.2.1.count 44 ≤ ct.2.1.length := List.count_le_length
    omega
  refine evG hc (evG hnf (evG (split44 ct.2.1 (by omega)) ?_))
  exact irows_any (l := l) (BA ct.2.1) (numQ (BA ct.1) 16).1 (splitQ 44 [] ct.2.1) hsz2 (by omega) hn (splitQ 44 [] ct.2.1).length 0 [] (by omega) (by omega) (by simp)
theorem impl_reads (n : Int) (L : List Int) (hb : boardB n L = true) : Ev (fun k => impl_ParseBoard.f k (BA (txt n L))) (n, L, 0) := by
  obtain ⟨hn, hLl, _⟩ := (boardB_iff n L).1 hb
  have hlen := txt_len n L hb
  have hd := dec_len n (by omega) (by omega)
  have hbl := boardT_len L hLl
  have hc := cut_f (txt n L) (by omega)
  rw [cut_text n L (by omega) (by omega)] at hc
  have hnf := num_f (dl n) (by omega) 16
  rw [num_impl n (by omega) (by omega) 16 (by omega)] at hnf
  unfold impl_ParseBoard.f
  refine evG hc (evG hnf (evG (split44 (boardT L) (by omega)) ?_))
  by_cases cb : L = []
  · subst cb
    show Ev (fun k => impl_ParseBoard.l0 k (BA (txt n [])) (BA []) [BA []] 1 0 n []) _
    obtain ⟨ps, b, h1, h2, h3⟩ := numbers_any [] (by simp)
    refine evSucc (fun q => by rw [impl_ParseBoard.l0]) ?_
    refine evT (by decide) (evT (by decide) (evT (by simp) (evB h1 ?_)))
    refine lay_l (l := txt n []) (BA []) [BA []] 1 0 n [] ps (by omega) (fun p hp => (h2 p hp).1) (by simp) (by omega) _ ps.length 0 0 (by omega) ?_
    rw [if_pos ((BA_nil _).2 rfl)]
    refine evSucc (fun q => by rw [impl_ParseBoard.l0]) ?_
    exact evF (by decide) (impl_good n [] hb)
  · have hne := boardT_ne L cb (board_in n L hb)
    rw [split_board L cb]
    have := irows_exact n L hb (BA (boardT L)) (fun e => hne ((BA_nil _).1 e)) L.length 0 (by omega)
    simpa using this
end
end Go.Proofs.YtiaajlehmagljaaDoor.B
