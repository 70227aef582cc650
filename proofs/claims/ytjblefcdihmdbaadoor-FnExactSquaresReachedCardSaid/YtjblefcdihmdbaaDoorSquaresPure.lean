/-
  SquaresReached: program's list and reference's layers alike.
-/
import Derived.Test.YtjblefcdihmdbaaDoorMetPure
import Derived.Test.YtjblefcdihmdbaaDoorGoalPure
import Derived.Test.YtjblefcdihmdbaaDoorFirstTwo
import Derived.Test.YtjblefcdihmdbaaDoorOutReached
import Derived.Test.YtjblefcdihmdbaaDoorQ6
namespace Go.Proofs.YtjblefcdihmdbaaDoor.B
open Go.RowKit Go.Proofs.YtjblefcdihmdbaaDoor.Q Go.Proofs.YtjblefcdihmdbaaDoorW.PrintWords Go.Proofs.YtjblefcdihmdbaaDoorW.PrintLast
set_option linter.unusedVariables false

theorem nubP_len (l : List Q2) : (nubP l).length ≤ l.length := by
  induction l with
  | nil => simp [nubP]
  | cons x l ih =>
    simp only [nubP]
    split
    · simp
      omega
    · simp
      omega
theorem nubP_rev (l : List Q2) : (nubP l).length = (nubP l.reverse).length := by
  have h : ∀ a b : List Q2, (∀ x ∈ a, x ∈ b) → (nubP a).length ≤ (nubP b).length := fun a b hab =>
    nodup_le _ _ (nubP_nodup a) (fun x hx => (mem_nubP x b).2 (hab x ((mem_nubP x a).1 hx)))
  have h1 := h l l.reverse (fun x hx => by simpa using hx)
  have h2 := h l.reverse l (fun x hx => by simpa using hx)
  omega
/-- The bools say which squares have been met; the count, how many. -/
structure Sq (sq : List Bool) (count : Int) (S : List Q2) : Prop where
  len : sq.length = 256
  iff : ∀ x y : Int, (0 ≤ x ∧ x < 16) → (0 ≤ y ∧ y < 16) → (rdOf false sq (y * 16 + x) = true ↔ (x, y) ∈ S)
  num : count = (nubP S).length
theorem sq_start : Sq (List.replicate 256 false) 0 [] := by
  refine ⟨List.length_replicate, fun x y hx hy => ?_, rfl⟩
  unfold rdOf
  rw [List.getD_eq_getElem?_getD, List.getElem?_replicate, if_pos (by omega)]
  simp
theorem Sq.old {sq : List Bool} {count : Int} {S : List Q2} (h : Sq sq count S) {p : Q2} (hp : p ∈ S) : Sq sq count (p :: S) := by
  refine ⟨h.len, fun x y hx hy => ?_, ?_⟩
  · rw [h.iff x y hx hy, List.mem_cons]
    exact ⟨Or.inr, fun e => e.elim (fun e => e ▸ hp) id⟩
  · rw [h.num]
    simp only [nubP]
    rw [if_pos hp]
theorem Sq.new {sq : List Bool} {count : Int} {S : List Q2} (h : Sq sq count S) {a b : Int} (ha : 0 ≤ a ∧ a < 16) (hb : 0 ≤ b ∧ b < 16) (hp : ¬ (a, b) ∈ S) : Sq (sq.set (b * 16 + a).toNat true) (count + 1) ((a, b) :: S) := by
  refine ⟨by rw [List.length_set]; exact h.len, fun x y hx hy => ?_, ?_⟩
  · have := h.iff x y hx hy
    unfold rdOf at this ⊢
    rw [List.getD_eq_getElem?_getD] at this ⊢
    rw [List.getElem?_set]
    by_cases c : (b * 16 + a).toNat = (y * 16 + x).toNat
    · rw [if_pos c, if_pos (by rw [h.len]; omega)]
      have e1 : x = a := by omega
      have e2 : y = b := by omega
      simp [e1, e2]
    · rw [if_neg c, this, List.mem_cons]
      refine ⟨Or.inr, fun e => e.elim (fun e => ?_) id⟩
      simp only [Prod.mk.injEq] at e
      exact absurd (by rw [e.1, e.2]) c
  · rw [h.num]
    simp only [nubP]
    rw [if_neg hp]
    simp
theorem sq_in {l : List ByteArray} (ht : isT l = true) (x1 : Int) (sq : List Bool) (count : Int) (x8 : List (S28)) (x11 : Int) (q : Q4) (hg : Good l q) (i far : Int) (r : Int × Int) (h11 : 0 ≤ x11 ∧ x11 < x8.length ∧ x11 ≤ 100000) (hx : (rd_T28 x8 x11).f0 = q.1 ∧ (rd_T28 x8 x11).f1 = q.2.1 ∧ (rd_T28 x8 x11).f2 = q.2.2.1 ∧ (rd_T28 x8 x11).f3 = q.2.2.2) (pre : List Trip) (d : Nat) : ∀ (m : Int) (C : List Trip) (met : List Bool), 0 ≤ m → m + d = 9 → Inv l (pre ++ C) → Met met ((pre ++ C).map keyT) → 0 ≤ far → far ≤ (pre ++ C).length →
    (∀ met' C', addL i far q ((seg m d).filter (openQ l q)) (pre ++ C) = pre ++ C' → Met met' ((pre ++ C').map keyT) → Ev (fun k => spec_SquaresReached.l1 k l x1 met' sq x8 count (C'.map (·.f0)) (x11 + 1)) r) → Ev (fun k => spec_SquaresReached.l2 k l x1 met sq x8 count (C.map (·.f0)) x11 m) r := by
  induction d with
  | zero =>
    intro m C met hm0 hm hI hM hf0 hf1 h
    refine evSucc (fun k => by rw [spec_SquaresReached.l2, wrap_in (x := x11 + 1) (by omega) (by omega)]) ?_
    exact evF (by omega) (h met C (by simp [seg, addL]) hM)
  | succ d ih =>
    intro m C met hm0 hm hI hM hf0 hf1 h
    have hl := hI.len ht
    have hCl : C.length ≤ 30976 := by simp at hl; omega
    refine evSucc (fun k => by rw [spec_SquaresReached.l2, hx.1, hx.2.1, hx.2.2.1, hx.2.2.2, wrap_in (x := m + 1) (by omega) (by omega)]) ?_
    refine evT (by omega) (evT h11.1 (evT h11.2.1 (evB (moveQ ht q hg m ⟨hm0, by omega⟩) ?_)))
    simp only [seg, List.filter_cons] at h
    by_cases ho : openQ l q m = true
    · rw [if_pos ho] at h ⊢
      have hgn := open_good ho
      have hR : InR (nextQ q m) := hgn.range ht
      have hnum := numQ_range hR
      refine evT rfl (evG (number_eq hR) (evT hnum.1 (evT (by rw [hM.1]; omega) ?_)))
      simp only [addL] at h
      by_cases hmem : nextQ q m ∈ (pre ++ C).map keyT
      · rw [if_pos hmem] at h
        refine evT ((hM.2 _ hR).2 hmem) ?_
        exact ih (m + 1) C met (by omega) (by omega) hI hM hf0 hf1 h
      · rw [if_neg hmem] at h
        refine evF (fun e => hmem ((hM.2 _ hR).1 e)) (evG (number_eq hR) (evT hnum.1 (evT (by rw [hM.1]; omega) (evT (by rw [List.length_map]; omega) ?_))))
        have e0 : (pre ++ C) ++ [mkTrip (nextQ q m) i m (far + 1)] = pre ++ (C ++ [mkTrip (nextQ q m) i m (far + 1)]) := List.append_assoc _ _ _
        rw [e0] at h
        have := ih (m + 1) (C ++ [mkTrip (nextQ q m) i m (far + 1)]) (met.set (numQ (nextQ q m)).toNat true) (by omega) (by omega) (by rw [← e0]; exact hI.snoc hmem hgn ⟨by omega, by omega⟩) (by rw [← e0, List.map_append]; exact hM.add hR) hf0 (by rw [← e0]; simp only [List.length_append] at hf1 ⊢; omega) h
        simpa [mkTrip] using this
    · rw [if_neg ho] at h ⊢
      exact evF (by simp) (ih (m + 1) C met (by omega) (by omega) hI hM hf0 hf1 h)
theorem rd_item (B1 : List Trip) (t : Trip) (B2 : List Trip) : rd_T28 ((B1 ++ t :: B2).map (·.f0)) (B1.length : Int) = t.f0 := by
  unfold rd_T28
  rw [List.getD_eq_getElem?_getD, Int.toNat_natCast, List.getElem?_map, List.getElem?_append_right (Nat.le_refl _)]
  simp
theorem sq_item {l : List ByteArray} (ht : isT l = true) (x1 : Int) (A B1 : List Trip) (t : Trip) (B2 : List Trip) (i : Int) (r : Int × Int) (C : List Trip) (met sq : List Bool) (count : Int) (S : List Q2) (hI : Inv l ((A ++ B1 ++ t :: B2) ++ C)) (hM : Met met (((A ++ B1 ++ t :: B2) ++ C).map keyT)) (hS : Sq sq count S) (hSl : S.length ≤ 100000)
    (h : ∀ met' C' sq' count', addL i t.f3 (keyT t) (movesQ l (keyT t)) ((A ++ B1 ++ t :: B2) ++ C) = (A ++ B1 ++ t :: B2) ++ C' → Met met' (((A ++ B1 ++ t :: B2) ++ C').map keyT) → Sq sq' count' (sqT t :: S) → Ev (fun k => spec_SquaresReached.l1 k l x1 met' sq' ((B1 ++ t :: B2).map (·.f0)) count' (C'.map (·.f0)) (B1.length + 1)) r) :
    Ev (fun k => spec_SquaresReached.l1 k l x1 met sq ((B1 ++ t :: B2).map (·.f0)) count (C.map (·.f0)) B1.length) r := by
  have hl := hI.len ht
  have hlen : B1.length < 30976 := by simp at hl; omega
  have htm : t ∈ (A ++ B1 ++ t :: B2) ++ C := by simp
  have hg := hI.good t htm
  have hf := hI.far t htm
  obtain ⟨g1, g2, g3, g4⟩ := hg.range ht
  have e1 := rd_item B1 t B2
  have g1' : 0 ≤ t.f0.f0 ∧ t.f0.f0 < 16 := g1
  have g2' : 0 ≤ t.f0.f1 ∧ t.f0.f1 < 16 := g2
  have hc : count ≤ 100000 := by
    have := nubP_len S
    rw [hS.num]
    omega
  have hc0 : 0 ≤ count := by rw [hS.num]; omega
  have hx8 : (B1.length : Int) < ((B1 ++ t :: B2).map (·.f0)).length := by simp; omega
  refine evSucc (fun k => by rw [spec_SquaresReached.l1, e1, wrap_in (x := t.f0.f1 * 16) (by omega) (by omega), wrap_in (x := t.f0.f1 * 16 + t.f0.f0) (by omega) (by omega), wrap_in (x := count + 1) (by omega) (by omega)]) ?_
  refine evT hx8 (evT (by omega) (evT (by omega) (evT (by rw [hS.len]; omega) ?_)))
  have tail : ∀ sq' count', Sq sq' count' (sqT t :: S) → Ev (fun k => spec_SquaresReached.j2 k l x1 met sq' ((B1 ++ t :: B2).map (·.f0)) count' (C.map (·.f0)) B1.length) r := fun sq' count' hS' => by
    refine evSucc (fun k => by rw [spec_SquaresReached.j2]) ?_
    exact sq_in ht x1 sq' count' _ B1.length (keyT t) hg i t.f3 r ⟨by omega, hx8, by omega⟩ (by rw [e1]; exact ⟨rfl, rfl, rfl, rfl⟩) (A ++ B1 ++ t :: B2) 9 0 C met (by omega) (by omega) hI hM hf.1 hf.2 (fun met' C' hC hM' => h met' C' sq' count' hC hM' hS')
  by_cases c : sqT t ∈ S
  · exact evT ((hS.iff _ _ g1' g2').2 c) (tail sq count (hS.old c))
  · exact evF (fun e => c ((hS.iff _ _ g1' g2').1 e)) (tail _ _ (hS.new g1' g2' c))
theorem sq_last {l : List ByteArray} (ht : isT l = true) (A : List Trip) (B2 : List Trip) : ∀ (B1 C : List Trip) (met sq : List Bool) (count : Int), Inv l (A ++ B1 ++ B2 ++ C) → Met met ((A ++ B1 ++ B2 ++ C).map keyT) → Sq sq count (((A ++ B1).map sqT).reverse) →
    Ev (fun k => spec_SquaresReached.l1 k l 0 met sq ((B1 ++ B2).map (·.f0)) count (C.map (·.f0)) B1.length) (((nubP ((A ++ B1 ++ B2).map sqT).reverse).length : Int), 0) := by
  induction B2 with
  | nil =>
    intro B1 C met sq count hI hM hS
    refine evSucc (fun k => by rw [spec_SquaresReached.l1, show wrap64 (0 - 1) = -1 by decide +kernel]) ?_
    refine evF (by simp) ?_
    refine evSucc (fun k => by rw [spec_SquaresReached.l0]) ?_
    exact evF (by omega) (evE (by rw [hS.num, List.append_nil]) (evS _))
  | cons t B2 ih =>
    intro B1 C met sq count hI hM hS
    have hl := hI.len ht
    refine sq_item ht 0 A B1 t B2 0 _ C met sq count _ hI hM hS (by simp at hl ⊢; omega) (fun met' C' sq' count' hC hM' hS' => ?_)
    have hf := hI.far t (by simp)
    have hI' := Inv.add 0 t.f3 (keyT t) (movesQ l (keyT t)) _ hI (fun m hm => movesQ_open hm) hf.1 hf.2
    rw [hC] at hI'
    have e1 : A ++ (B1 ++ [t]) ++ B2 = A ++ B1 ++ t :: B2 := by simp
    have e2 : (B1 ++ [t]) ++ B2 = B1 ++ t :: B2 := by simp
    have := ih (B1 ++ [t]) C' met' sq' count' (by rw [e1]; exact hI') (by rw [e1]; exact hM') (by simpa using hS')
    rw [e1, e2] at this
    simpa using this
theorem sq_empty {l : List ByteArray} (n : Nat) : ∀ (x1 : Int) (met sq : List Bool) (count : Int), x1 < n → -1 ≤ x1 → x1 ≤ 1000 → Ev (fun k => spec_SquaresReached.l0 k l x1 met sq [] count) (count, 0) := by
  induction n with
  | zero =>
    intro x1 met sq count h0 h1 h2
    refine evSucc (fun k => by rw [spec_SquaresReached.l0]) ?_
    exact evF (by omega) (evS _)
  | succ n ih =>
    intro x1 met sq count h0 h1 h2
    refine evSucc (fun k => by rw [spec_SquaresReached.l0]) ?_
    by_cases c : x1 ≥ 0
    · refine evT c ?_
      refine evSucc (fun k => by rw [spec_SquaresReached.l1, wrap_in (x := x1 - 1) (by omega) (by omega)]) ?_
      exact evF (by simp) (ih (x1 - 1) met sq count (by omega) (by omega) (by omega))
    · exact evF c (evS _)
def noB (_ : Q4) : Bool := false
theorem tripAt_item (P : List Trip) (t : Trip) (U : List Trip) : tripAt (P ++ t :: U) (P.length : Int) = t := by
  unfold tripAt rd_T54
  rw [List.getD_eq_getElem?_getD, Int.toNat_natCast, List.getElem?_append_right (Nat.le_refl _)]
  simp
theorem bfs_done {l : List ByteArray} (K : Int) (d : Nat) : ∀ (P U : List Trip), (∀ t ∈ U, t.f3 = K) → (bfs l noB K d (P ++ U) P.length).1 = P ++ U := by
  induction d with
  | zero => intro P U _; rfl
  | succ d ih =>
    intro P U hU
    simp only [bfs]
    cases U with
    | nil => rw [if_neg (by simp)]
    | cons t U =>
      rw [if_pos (by simp; omega), tripAt_item, if_neg (by simp [noB]), if_pos (hU t (by simp))]
      have := ih (P ++ [t]) U (fun s hs => hU s (by simp [hs]))
      simpa using this
theorem sq_main {l : List ByteArray} (ht : isT l = true) (K : Int) (hK : K ≤ 20) (d : Nat) : ∀ (j : Int) (A B1 B2 C : List Trip) (met sq : List Bool) (count : Int), 30977 ≤ (A ++ B1).length + d → 0 ≤ j → j < K → (∀ t ∈ B2, t.f3 = j) → (∀ t ∈ C, t.f3 = j + 1) → Inv l (A ++ B1 ++ B2 ++ C) → Met met ((A ++ B1 ++ B2 ++ C).map keyT) → Sq sq count (((A ++ B1).map sqT).reverse) →
    Ev (fun k => spec_SquaresReached.l1 k l (K - j) met sq ((B1 ++ B2).map (·.f0)) count (C.map (·.f0)) B1.length) (((nubP (((bfs l noB K d (A ++ B1 ++ B2 ++ C) ((A ++ B1).length : Int)).1).map sqT).reverse).length : Int), 0) := by
  induction d with
  | zero =>
    intro j A B1 B2 C met sq count hd hj0 hj hB hC hI hM hS
    have hl := hI.len ht
    simp only [List.length_append] at hl hd
    omega
  | succ d ih =>
    have step : ∀ (j : Int) (A B1 : List Trip) (t : Trip) (B2 C : List Trip) (met sq : List Bool) (count : Int), 30977 ≤ (A ++ B1).length + (d + 1) → 0 ≤ j → j < K → (∀ s ∈ t :: B2, s.f3 = j) → (∀ s ∈ C, s.f3 = j + 1) → Inv l (A ++ B1 ++ t :: B2 ++ C) → Met met ((A ++ B1 ++ t :: B2 ++ C).map keyT) → Sq sq count (((A ++ B1).map sqT).reverse) →
        Ev (fun k => spec_SquaresReached.l1 k l (K - j) met sq ((B1 ++ t :: B2).map (·.f0)) count (C.map (·.f0)) B1.length) (((nubP (((bfs l noB K (d + 1) (A ++ B1 ++ t :: B2 ++ C) ((A ++ B1).length : Int)).1).map sqT).reverse).length : Int), 0) := by
      intro j A B1 t B2 C met sq count hd hj0 hj hB hC hI hM hS
      have hl := hI.len ht
      have hft : t.f3 = j := hB t (by simp)
      have hf := hI.far t (by simp)
      refine sq_item ht (K - j) A B1 t B2 ((A ++ B1).length : Int) _ C met sq count _ hI hM hS (by simp at hl ⊢; omega) (fun met' C' sq' count' hC' hM' hS' => ?_)
      have hI' := Inv.add ((A ++ B1).length : Int) t.f3 (keyT t) (movesQ l (keyT t)) _ hI (fun m hm => movesQ_open hm) hf.1 hf.2
      rw [hC'] at hI'
      obtain ⟨x, hx1, _, hx3⟩ := addL_grow ((A ++ B1).length : Int) t.f3 (keyT t) (movesQ l (keyT t)) ((A ++ B1 ++ t :: B2) ++ C)
      have hCx : C' = C ++ x := by
        have := hC'.symm.trans hx1
        rw [List.append_assoc (A ++ B1 ++ t :: B2)] at this
        exact List.append_cancel_left this
      have e1 : A ++ (B1 ++ [t]) ++ B2 = A ++ B1 ++ t :: B2 := by simp
      have e2 : (B1 ++ [t]) ++ B2 = B1 ++ t :: B2 := by simp
      have e3 : bfs l noB K (d + 1) (A ++ B1 ++ t :: B2 ++ C) ((A ++ B1).length : Int) = bfs l noB K d (A ++ B1 ++ t :: B2 ++ C') ((A ++ (B1 ++ [t])).length : Int) := by
        have e4 : tripAt (A ++ B1 ++ t :: B2 ++ C) ((A ++ B1).length : Int) = t := by
          have := tripAt_item (A ++ B1) t (B2 ++ C)
          simpa using this
        simp only [bfs]
        rw [if_pos (by simp; omega), e4, if_neg (by simp [noB]), if_neg (by omega), hC']
        congr 1
        simp
        omega
      have := ih j A (B1 ++ [t]) B2 C' met' sq' count' (by simp at hd ⊢; omega) hj0 hj (fun s hs => hB s (by simp [hs])) (fun s hs => by
        rw [hCx] at hs
        rcases List.mem_append.1 hs with hs | hs
        · exact hC s hs
        · have := (hx3 s hs).2.1
          omega) (by rw [e1]; exact hI') (by rw [e1]; exact hM') (by simpa using hS')
      rw [e1, e2] at this
      rw [e3]
      simpa using this
    intro j A B1 B2 C met sq count hd hj0 hj hB hC hI hM hS
    cases B2 with
    | cons t B2 => exact step j A B1 t B2 C met sq count hd hj0 hj hB hC hI hM hS
    | nil =>
      refine evSucc (fun k => by rw [spec_SquaresReached.l1, wrap_in (x := K - j - 1) (by omega) (by omega)]) ?_
      refine evF (by simp) ?_
      cases C with
      | nil =>
        have e : bfs l noB K (d + 1) (A ++ B1 ++ [] ++ []) ((A ++ B1).length : Int) = (A ++ B1, -1) := by
          simp only [bfs, List.append_nil]
          rw [if_neg (by omega)]
        rw [e]
        exact evE (by rw [hS.num]) (sq_empty 2000 (K - j - 1) met sq count (by omega) (by omega) (by omega))
      | cons t C2 =>
        refine evSucc (fun k => by rw [spec_SquaresReached.l0]) ?_
        refine evT (by omega) ?_
        have e1 : A ++ B1 ++ [] ++ t :: C2 = (A ++ B1) ++ [] ++ t :: C2 ++ [] := by simp
        have e5 : (A ++ B1) ++ ([] : List Trip) = A ++ B1 := by simp
        by_cases cj : j + 1 < K
        · have := step (j + 1) (A ++ B1) [] t C2 [] met sq count (by rw [e5]; exact hd) (by omega) cj hC (fun s hs => by cases hs) (by rw [← e1]; exact hI) (by rw [← e1]; exact hM) (by rw [e5]; exact hS)
          rw [← e1, e5] at this
          rw [show K - j - 1 = K - (j + 1) by omega]
          simpa using this
        · have hjK : j + 1 = K := by omega
          have := sq_last ht (A ++ B1) (t :: C2) [] [] met sq count (by rw [← e1]; exact hI) (by rw [← e1]; exact hM) (by rw [e5]; exact hS)
          have e6 := bfs_done (l := l) K (d + 1) (A ++ B1) (t :: C2) (fun s hs => by rw [hC s hs, hjK])
          rw [show K - j - 1 = 0 by omega, show A ++ B1 ++ [] ++ t :: C2 = A ++ B1 ++ t :: C2 by simp, e6]
          rw [e5] at this
          simpa using this
theorem bfs_inv {l : List ByteArray} (acc : Q4 → Bool) (most : Int) (d : Nat) : ∀ (ts : List Trip) (i : Int), Inv l ts → 0 ≤ i → Inv l (bfs l acc most d ts i).1 := by
  induction d with
  | zero => intro ts i hI h0; exact hI
  | succ d ih =>
    intro ts i hI h0
    simp only [bfs]
    split
    · rename_i c
      have hf := hI.far _ (tripAt_mem h0 c)
      split
      · exact hI
      · split
        · exact ih ts (i + 1) hI (by omega)
        · exact ih _ (i + 1) (Inv.add i _ _ _ ts hI (fun m hm => movesQ_open hm) hf.1 hf.2) (by omega)
    · exact hI
theorem inv_start4 {l : List ByteArray} {q : Q4} (hg : Good l q) : Inv l [trip0 q.1 q.2.1 q.2.2.1 q.2.2.2] := by
  refine ⟨fun t ht => ?_, by simp, fun t ht => ?_⟩
  · obtain rfl : t = trip0 q.1 q.2.1 q.2.2.1 q.2.2.2 := by simpa using ht
    exact hg
  · obtain rfl : t = trip0 q.1 q.2.1 q.2.2.1 q.2.2.2 := by simpa using ht
    simp [trip0]
theorem wf_in {x : Int} (a : -100000 ≤ x) (b : x ≤ 100000) : (Lit.int .i64 x).wf = true := by
  have := wrap64_wf x
  rwa [wrap_in (by omega) (by omega)] at this
theorem wf4_good {l : List ByteArray} (ht : isT l = true) {q : Q4} (hg : Good l q) : wf4 q = true := by
  obtain ⟨h1, h2, h3, h4⟩ := hg.range ht
  simp only [wf4, Bool.and_eq_true]
  exact ⟨wf_in (by omega) (by omega), wf_in (by omega) (by omega), wf_in (by omega) (by omega), wf_in (by omega) (by omega)⟩
theorem both_squares (l : List ByteArray) (hs : Small l) (a1 : Int) : ∃ r e : Int, Ev (fun k => spec_SquaresReached.f k l a1) (r, e) ∧ Ev (fun k => impl_SquaresReached.f k l a1) (r, e) := by
  unfold spec_SquaresReached.f impl_SquaresReached.f
  by_cases ht : isT l = true
  · by_cases hk : 0 ≤ a1 ∧ a1 ≤ 20
    · obtain ⟨x, y, h1, h2, hg, _⟩ := first_good ht
      have hR : InR (x, y, 0, 0) := hg.range ht
      have hnum := numQ_range hR
      have hI := inv_start4 hg
      obtain ⟨D, hD⟩ : ∃ D : Nat, D = 30977 := ⟨_, rfl⟩
      obtain ⟨K, hK⟩ := tour_bfs ht noB (fun _ => neverP) (fun q _ => evC rfl) a1 D [trip0 x y 0 0] 0 hI (by omega) (by omega)
      have hJ := bfs_inv (l := l) noB a1 D [trip0 x y 0 0] 0 hI (by omega)
      have hM := met_start hR
      have hS := sq_start
      have s1 : Ev (fun k => spec_SquaresReached.l1 k l a1 ((List.replicate 30976 false).set (numQ (x, y, 0, 0)).toNat true) (List.replicate 256 false) [⟨x, y, 0, 0⟩] 0 [] 0) (((nubP (((bfs l noB a1 D [trip0 x y 0 0] 0).1).map sqT).reverse).length : Int), 0) := by
        by_cases c0 : a1 = 0
        · have := sq_last ht [] [trip0 x y 0 0] [] [] _ _ 0 hI hM hS
          have e6 := bfs_done (l := l) a1 D [] [trip0 x y 0 0] (fun s hs => by
            obtain rfl : s = trip0 x y 0 0 := by simpa using hs
            rw [c0]
            rfl)
          change (bfs l noB a1 D [trip0 x y 0 0] 0).1 = _ at e6
          rw [e6, c0]
          exact this
        · have := sq_main ht a1 hk.2 D 0 [] [] [trip0 x y 0 0] [] _ _ 0 (by simp; omega) (by omega) (by omega) (fun s hs => by
            obtain rfl : s = trip0 x y 0 0 := by simpa using hs
            rfl) (fun s hs => by cases hs) hI hM hS
          rw [show a1 - 0 = a1 by omega] at this
          exact this
      have hlen : (List.replicate 30976 false).length = 30976 := List.length_replicate
      clear hM hS
      generalize List.replicate 30976 false = rep at s1 hlen ⊢
      generalize List.replicate 256 false = rep2 at s1 ⊢
      generalize bfs l noB a1 D [trip0 x y 0 0] 0 = z at s1 hK hJ
      refine ⟨((nubP (z.1.map sqT).reverse).length : Int), 0, evB (track_spec l) (evT ht (evG (in_eq hk.1 hk.2) (evT rfl (evG rfl (evB h1 (evG rfl (evT (by simp) (evG (number_eq (q := (x, y, 0, 0)) hR) (evT hnum.1 (evT (by rw [hlen]; exact hnum.2) ?_)))))))))), evG (track_impl l hs) (evG (within_eq hk.1 hk.2) (evB (by rw [ht]; exact first_two true true 1 2) (evT rfl (evG h2 (evT (wf4_good ht hg) ?_)))))⟩
      · refine evSucc (fun k => by rw [spec_SquaresReached.l0]) ?_
        exact evT hk.1 s1
      · refine ⟨K + D + 1, fun n hn => ?_⟩
        have e1 := hK n (by omega) n (by omega)
        show (tourF neverP n l a1 n [trip0 x y 0 0] 0).bind _ = _
        rw [e1, Option.bind_some]
        have hz := hJ.len ht
        have hall : z.1.all (fun t => wf2 (sqT t)) = true := by
          rw [List.all_eq_true]
          intro t htm
          obtain ⟨g1, g2, _, _⟩ := (hJ.good t htm).range ht
          have g1' : 0 ≤ t.f0.f0 ∧ t.f0.f0 < 16 := g1
          have g2' : 0 ≤ t.f0.f1 ∧ t.f0.f1 < 16 := g2
          simp only [wf2, sqT, Bool.and_eq_true]
          exact ⟨wf_in (by omega) (by omega), wf_in (by omega) (by omega)⟩
        rw [if_pos ⟨by omega, hall⟩, nubP_rev]
    · exact ⟨0, 2, evB (track_spec l) (evT ht (evG (in_ne hk) (evF (by simp) (evS _)))), evG (track_impl l hs) (evG (within_ne hk) (evB (by rw [ht]; exact first_two true false 1 2) (evF (by decide) (evS _))))⟩
  · have hf : isT l = false := by simpa using ht
    obtain ⟨b, hb⟩ : ∃ b, impl_within.f a1 0 20 = some b := by
      by_cases hk : 0 ≤ a1 ∧ a1 ≤ 20
      · exact ⟨_, within_eq hk.1 hk.2⟩
      · exact ⟨_, within_ne hk⟩
    exact ⟨0, 1, evB (track_spec l) (evF ht (evS _)), evG (track_impl l hs) (evG hb (evB (by rw [hf]; exact first_two false b 1 2) (evF (by simp) (evS _))))⟩
end Go.Proofs.YtjblefcdihmdbaaDoor.B
