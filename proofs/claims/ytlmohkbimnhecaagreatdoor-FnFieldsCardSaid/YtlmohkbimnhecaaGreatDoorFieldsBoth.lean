/-
  Moves of the fields' games, points, fairness, exchanged sides: program and reference answer alike, and a move keeps a field fair. No condition beyond those that are written.
-/
import Derived.Test.YtlmohkbimnhecaaGreatDoorQ8
import Derived.Test.YtlmohkbimnhecaaGreatDoorQ4
import Derived.Test.YtlmohkbimnhecaaGreatDoorQ6
import Derived.Test.YtlmohkbimnhecaaGreatDoorField
import Derived.Test.YtlmohkbimnhecaaGreatDoorTexts
namespace Go.Proofs.YtlmohkbimnhecaaGreatDoor.B
open Go.RowKit Go.Proofs.YtlmohkbimnhecaaGreatDoor.Q Go.Proofs.YtlmohkbimnhecaaGreatDoorW.PrintWords Go.Proofs.YtlmohkbimnhecaaGreatDoorW.PrintLast Go.Proofs.YtlmohkbimnhecaaGreatDoorW.PrintMore

theorem index_l (l : List Int) (x : Int) (hl : l.length ≤ 1000000) (d : Nat) : ∀ i : Int, 0 ≤ i → (l.length : Int) = i + d → ∃ r : Int, (decide (r ≥ 0) = (l.drop i.toNat).contains x) ∧ Ev (fun k => slices_Index_int64_int64.l0 k l x (l.length : Int) i) r := by
  induction d with
  | zero =>
    intro i h0 h1
    refine ⟨-1, ?_, evSucc (fun k => by rw [slices_Index_int64_int64.l0]) (evF (by omega) (evS _))⟩
    rw [List.drop_eq_nil_of_le (by omega)]
    rfl
  | succ d ih =>
    intro i h0 h1
    have hi : i.toNat < l.length := by omega
    have hd : l.drop i.toNat = l[i.toNat] :: l.drop (i + 1).toNat := by rw [List.drop_eq_getElem_cons hi, show (i + 1).toNat = i.toNat + 1 by omega]
    have hr : rd l i = l[i.toNat] := by simp [rd, List.getD_eq_getElem?_getD, hi]
    by_cases c : x = rd l i
    · refine ⟨i, ?_, evSucc (fun k => by rw [slices_Index_int64_int64.l0]) (evT (by omega) (evT h0 (evT (by omega) (evT c (evS _)))))⟩
      rw [hd, decide_eq_true (by omega), c, hr]
      simp
    · obtain ⟨r, h2, h3⟩ := ih (i + 1) (by omega) (by omega)
      refine ⟨r, ?_, evSucc (fun k => by rw [slices_Index_int64_int64.l0]) (evT (by omega) (evT h0 (evT (by omega) (evF c (by rw [wrap_in (x := i + 1) (by omega) (by omega)]; exact h3)))))⟩
      rw [h2, hd, List.contains_cons, ← hr, show (x == rd l i) = false from beq_eq_false_iff_ne.2 c, Bool.false_or]
theorem contains_ev (l : List Int) (x : Int) (hl : l.length ≤ 1000000) : Ev (fun k => slices_Contains_int64_int64.f k l x) (l.contains x) := by
  obtain ⟨r, h1, h2⟩ := index_l l x hl l.length 0 (by omega) (by omega)
  unfold slices_Contains_int64_int64.f slices_Index_int64_int64.f
  refine evB h2 (evE ?_ (evS _))
  rw [h1]
  rfl
theorem mem_pts (P L R B g p i : Int) (h0 : 0 ≤ i) (h1 : i < P) : (ptsL P L R B g p).contains i = okP P L R B g p i := by
  rw [Bool.eq_iff_iff, List.contains_iff_mem]
  unfold ptsL
  rw [List.mem_filter, mem_seg]
  constructor
  · exact fun h => h.2
  · exact fun h => ⟨by omega, h⟩
theorem close3 {α : Type} {P Q : α → Prop} {R : α → Prop} {r : α} (h : P r ∧ Q r) (g : R r) : ∃ r, P r ∧ Q r ∧ R r := ⟨r, h.1, h.2, g⟩
theorem colour_both (P L R B g p i : Int) : ∃ r : Int × Int × Int × Int × Int, Ev (fun k => spec_ColourPoint.f k P L R B g p i) r ∧ Ev (fun k => impl_ColourPoint.f k P L R B g p i) r ∧
    (r.2.2.2.2 = 0 → impl_IsField.f P L R B = some true ∧ codeF P L R B g p true = 0 ∧ (0 ≤ i ∧ i ≤ P - 1) ∧ okP P L R B g p i = true ∧ r = (P, L, mvR R p i, mvB B p i, 0)) := by
  unfold spec_ColourPoint.f impl_ColourPoint.f
  obtain ⟨b, hb⟩ := field_total P L R B
  have h1 := code_spec P L R B g p b hb
  have h2 := code_impl P L R B g p b hb
  rw [hb, within_eq, l01In_eq]
  have sj1 : ∀ c : Int, c ≠ 0 → Ev (fun k => spec_ColourPoint.j1 k g p i c P L R B) (0, 0, 0, 0, c) := fun c hc => evSucc (fun k => by rw [spec_ColourPoint.j1]) (evF hc (evS _))
  have ij1 : ∀ c : Int, c ≠ 0 → Ev (fun k => impl_ColourPoint.j1 k p i c false P L R B) (0, 0, 0, 0, c) := fun c hc => evSucc (fun k => by rw [impl_ColourPoint.j1]) (evF (by simp) (evF hc (evS _)))
  have ij0 : ∀ c : Int, c ≠ 0 → Ev (fun k => impl_ColourPoint.j0 k g p i c P L R B) (0, 0, 0, 0, c) := fun c hc => evSucc (fun k => by rw [impl_ColourPoint.j0]) (evF hc (ij1 c hc))
  cases b with
  | false =>
    have e : codeF P L R B g p false = 1 := rfl
    rw [e] at h1
    refine ⟨(0, 0, 0, 0, 1), evB h1 (evT rfl ?_), evG rfl (evG rfl (evB (first_two _ _ _ _) (evF (by simp) (evE (by simp) (ij0 1 (by decide)))))), fun h => absurd h (by decide)⟩
    exact evSucc (fun k => by rw [spec_ColourPoint.j0]) (evF (by simp) (sj1 1 (by decide)))
  | true =>
    obtain ⟨p0, p1⟩ := field_facts P L R B hb
    obtain ⟨hR, hB⟩ := field_sets P L R B hb
    have hw : wrap64 (P - 1) = P - 1 := wrap_in (by omega) (by omega)
    rw [hw]
    have hc1 : codeF P L R B g p true ≠ 1 := by unfold codeF; rw [if_pos rfl]; split <;> (try split) <;> decide
    by_cases hin : 0 ≤ i ∧ i ≤ P - 1
    · by_cases c : codeF P L R B g p true = 0
      · obtain ⟨_, hg, hp⟩ := codeF_zero P L R B g p true c
        rw [c] at h1 h2
        have hm := mem_pts P L R B g p i hin.1 (by omega)
        have hmv := move_spec P L R B p i hin.1 (by omega)
        have hco := coloured_impl P L R B p i hin.1
        have hd := or_digit R B i (by omega) (by omega) hin.1 (by omega)
        have hq : okP P L R B g p i = ((col R B i == 0) && fairB P L (mvR R p i) (mvB B p i) g) := rfl
        have start : ∀ r, (Ev (fun k => spec_ColourPoint.j1 k g p i 0 P L R B) r) → (Ev (fun k => impl_ColourPoint.j1 k p i 0 (!okP P L R B g p i) P L R B) r) →
            Ev (fun k => (spec_l05Player.f k P L R B g p).bind fun t278 => if t278 = 1 then spec_ColourPoint.j0 k g p i t278 false P L R B else (some (decide (0 ≤ i ∧ i ≤ P - 1))).bind fun t279 => spec_ColourPoint.j0 k g p i t278 (!t279) P L R B) r ∧
            Ev (fun k => (some true).bind fun t290 => (some (decide (0 ≤ i ∧ i ≤ P - 1))).bind fun t291 => (impl_first.f k [⟨t290, 1⟩, ⟨t291, 2⟩]).bind fun t295 => if t295 = 0 then (impl_fieldCode.f k P L R B g p).bind fun t296 => impl_ColourPoint.j0 k g p i t296 P L R B else impl_ColourPoint.j0 k g p i t295 P L R B) r := by
          intro r a1 a2
          rw [decide_eq_true hin]
          refine ⟨evB h1 (evF (by decide) (evG rfl (evSucc (fun k => by rw [spec_ColourPoint.j0]) (evF (by simp) a1)))), evG rfl (evG rfl (evB (first_two _ _ _ _) (evT (by simp) (evB h2 ?_))))⟩
          refine evSucc (fun k => by rw [impl_ColourPoint.j0]) (evT rfl (evB (points_impl P L R B g p ⟨p0, p1⟩) (evB (contains_ev (ptsL P L R B g p) i (by have := ptsL_len P L R B g p p1; omega)) ?_)))
          rw [hm]
          exact a2
        by_cases c2 : col R B i = 0
        · cases hf : fairB P L (mvR R p i) (mvB B p i) g with
          | true =>
            refine close3 (start (P, L, mvR R p i, mvB B p i, 0) ?_ ?_) (fun _ => ⟨rfl, c, hin, by rw [hq, hf, c2]; rfl, rfl⟩)
            · refine evSucc (fun k => by rw [spec_ColourPoint.j1]) (evT rfl ?_)
              rw [hmv, u64_at i hin.1 (by omega), hd]
              exact evG rfl (evT hin.1 (evF (by rw [if_pos c2]; decide) (evB (fair_spec P L _ _ g (by omega)) (evT hf (evS _)))))
            · rw [show okP P L R B g p i = true by rw [hq, hf, c2]; rfl]
              refine evSucc (fun k => by rw [impl_ColourPoint.j1]) (evF (by decide) (evT rfl ?_))
              rw [hco]
              exact evG rfl (evS _)
          | false =>
            refine close3 (start (0, 0, 0, 0, 5) ?_ ?_) (fun h => absurd h (by decide))
            · refine evSucc (fun k => by rw [spec_ColourPoint.j1]) (evT rfl ?_)
              rw [hmv, u64_at i hin.1 (by omega), hd]
              exact evG rfl (evT hin.1 (evF (by rw [if_pos c2]; decide) (evB (fair_spec P L _ _ g (by omega)) (evF (by simp [hf]) (evS _)))))
            · rw [hq, hf, Bool.and_false]
              refine evSucc (fun k => by rw [impl_ColourPoint.j1]) ?_
              exact evT rfl (evS _)
        · refine close3 (start (0, 0, 0, 0, 5) ?_ ?_) (fun h => absurd h (by decide))
          · refine evSucc (fun k => by rw [spec_ColourPoint.j1]) (evT rfl ?_)
            rw [hmv, u64_at i hin.1 (by omega), hd]
            exact evG rfl (evT hin.1 (evT (by rw [if_neg c2]) (evS _)))
          · rw [hq, show (col R B i == 0) = false from beq_eq_false_iff_ne.2 c2, Bool.false_and]
            refine evSucc (fun k => by rw [impl_ColourPoint.j1]) ?_
            exact evT rfl (evS _)
      · rw [decide_eq_true hin]
        refine ⟨(0, 0, 0, 0, codeF P L R B g p true), evB h1 (evF hc1 (evG rfl (evSucc (fun k => by rw [spec_ColourPoint.j0]) (evF (by simp) (sj1 _ c))))), evG rfl (evG rfl (evB (first_two _ _ _ _) (evT (by simp) (evB h2 (ij0 _ c))))), fun h => absurd h c⟩
    · rw [decide_eq_false hin]
      refine ⟨(0, 0, 0, 0, 2), evB h1 (evF hc1 (evG rfl (evSucc (fun k => by rw [spec_ColourPoint.j0]) (evT (by decide) (sj1 2 (by decide)))))), evG rfl (evG rfl (evB (first_two _ _ _ _) (evF (by simp) (evE (by simp) (ij0 2 (by decide)))))), fun h => absurd h (by decide)⟩

theorem points_both (P L R B g p : Int) : ∃ (l : List Int) (c : Int), l.length ≤ 8 ∧ Ev (fun k => spec_PointsFor.f k P L R B g p) (l, c) ∧ Ev (fun k => impl_PointsFor.f k P L R B g p) (l, c) ∧ (impl_IsField.f P L R B = some true → codeF P L R B g p true = 0 → l = ptsL P L R B g p) := by
  unfold spec_PointsFor.f impl_PointsFor.f
  obtain ⟨b, hb⟩ := field_total P L R B
  have h1 := code_spec P L R B g p b hb
  have h2 := code_impl P L R B g p b hb
  by_cases c : codeF P L R B g p b = 0
  · obtain ⟨rfl, _, _⟩ := codeF_zero P L R B g p b c
    have hP := field_facts P L R B hb
    have hs := field_sets P L R B hb
    exact ⟨ptsL P L R B g p, 0, ptsL_len P L R B g p hP.2, evB h1 (evT c (evB (points_spec P L R B g p hP (by omega) (by omega)) (evS _))), evB h2 (evT c (evB (points_impl P L R B g p hP) (evS _))), fun _ _ => rfl⟩
  · refine ⟨[], codeF P L R B g p b, by simp, evB h1 (evF c (evS _)), evB h2 (evF c (evS _)), fun h hc => ?_⟩
    rw [hb] at h
    obtain rfl := Option.some.inj h
    exact absurd hc c
theorem fair_both (P L R B g : Int) : ∃ (b : Bool) (c : Int), Ev (fun k => impl_IsFairField.f k P L R B g) (b, c) ∧ Ev (fun k => spec_IsFairField.f k P L R B g) (b, c) := by
  unfold impl_IsFairField.f spec_IsFairField.f spec_l05Code.f
  obtain ⟨b, hb⟩ := field_total P L R B
  rw [isField_same, hb, isBit_eq, l01In_eq]
  cases b with
  | false => exact ⟨false, 1, evG rfl (evG rfl (evB (first_two _ _ _ _) (evF (by simp) (evE (by simp) (evS _))))), evB (a := (1 : Int)) (evG rfl (evF (by simp) (evS _))) (evF (by decide) (evS _))⟩
  | true =>
    obtain ⟨p0, p1⟩ := field_facts P L R B hb
    by_cases hg : 0 ≤ g ∧ g ≤ 1
    · rw [decide_eq_true hg]
      refine ⟨fairB P L R B g, 0, evG rfl (evG rfl (evB (first_two _ _ _ _) (evT (by simp) (evB (fair_impl P L R B g (by omega)) (evS _))))), ?_⟩
      refine evB (a := (if fairB P L R B g = true then 0 else 5 : Int)) (evG rfl (evT rfl (evG rfl (evT rfl (evB (fair_spec P L R B g (by omega)) ?_))))) ?_
      · cases fairB P L R B g with
        | true => exact evT rfl (evS _)
        | false => exact evF (by simp) (evS _)
      · cases fairB P L R B g with
        | true => exact evF (by decide) (evS _)
        | false => exact evT (by decide) (evS _)
    · rw [decide_eq_false hg]
      exact ⟨false, 2, evG rfl (evG rfl (evB (first_two _ _ _ _) (evF (by simp) (evE (by simp) (evS _))))), evB (a := (2 : Int)) (evG rfl (evT rfl (evG rfl (evF (by simp) (evS _))))) (evF (by decide) (evS _))⟩
theorem fair_yes (P L R B g : Int) (h : impl_IsField.f P L R B = some true) (hg : 0 ≤ g ∧ g ≤ 1) : Ev (fun k => impl_IsFairField.f k P L R B g) (fairB P L R B g, 0) := by
  obtain ⟨p0, p1⟩ := field_facts P L R B h
  unfold impl_IsFairField.f
  rw [h, isBit_eq, decide_eq_true hg]
  exact evG rfl (evG rfl (evB (first_two _ _ _ _) (evT (by simp) (evB (fair_impl P L R B g (by omega)) (evS _)))))
theorem exchange_both (P L R B : Int) : ∃ r, impl_ExchangeSides.f P L R B = some r ∧ spec_ExchangeSides.f P L R B = some r ∧ (r.2.2.2.2 = 0 → impl_ExchangeSides.f r.1 r.2.1 r.2.2.1 r.2.2.2.1 = some (P, L, R, B, 0)) := by
  unfold spec_ExchangeSides.f
  obtain ⟨b, hb⟩ := field_total P L R B
  rw [isField_same, hb]
  cases b with
  | false => exact ⟨(0, 0, 0, 0, 1), by unfold impl_ExchangeSides.f; rw [hb]; rfl, rfl, fun h => absurd h (by decide)⟩
  | true =>
    refine ⟨(P, L, B, R, 0), by unfold impl_ExchangeSides.f; rw [hb]; rfl, rfl, fun _ => ?_⟩
    obtain ⟨p, l, a, b, rfl, rfl, rfl, rfl, hF⟩ := isField_fld P L R B hb
    have hT : Two p b a := ⟨hF.two.2.1, hF.two.1, fun i => (dg_three b a i).2 (fun z => (dg_three a b i).1 (hF.two.2.2 i) ⟨z.2, z.1⟩)⟩
    have h2 : impl_IsField.f (p : Int) (l : Int) (b : Int) (a : Int) = some true := Fld.is ⟨hF.p1, hF.p8, hF.l, hT⟩
    show impl_ExchangeSides.f (p : Int) (l : Int) (b : Int) (a : Int) = _
    unfold impl_ExchangeSides.f
    rw [h2]
    rfl
theorem like_l (l : List Int) (hl : l.length ≤ 1000) (d : Nat) : ∀ i : Int, 0 ≤ i → i + d = l.length → Ev (fun k => laws_likeInts.l0 k l l i) true := by
  induction d with
  | zero =>
    intro i h0 hd
    refine evSucc (fun k => by rw [laws_likeInts.l0]) ?_
    exact evF (by omega) (evS _)
  | succ d ih =>
    intro i h0 hd
    refine evSucc (fun k => by rw [laws_likeInts.l0]) ?_
    refine evT (by omega) (evT h0 (evT (by omega) (evT (by rfl) ?_)))
    rw [wrap_in (by omega) (by omega)]
    exact ih (i + 1) (by omega) (by omega)
theorem like_same (l : List Int) (hl : l.length ≤ 1000) : Ev (fun k => laws_likeInts.f k l l) true := by
  unfold laws_likeInts.f
  exact evT (by rfl) (like_l l hl l.length 0 (by omega) (by omega))
theorem has_l (l : List Int) (x : Int) (hl : l.length ≤ 1000) (d : Nat) : ∀ i : Int, 0 ≤ i → (l.length : Int) = i + d → x ∈ l.drop i.toNat → Ev (fun k => laws_hasInt.l0 k l x i) true := by
  induction d with
  | zero =>
    intro i h0 h1 hx
    rw [List.drop_eq_nil_of_le (by omega)] at hx
    cases hx
  | succ d ih =>
    intro i h0 h1 hx
    have hi : i.toNat < l.length := by omega
    have hr : rd l i = l[i.toNat] := by simp [rd, List.getD_eq_getElem?_getD, hi]
    refine evSucc (fun k => by rw [laws_hasInt.l0]) (evT (by omega) (evT h0 ?_))
    by_cases c : rd l i = x
    · exact evT c (evS _)
    · refine evF c ?_
      rw [wrap_in (by omega) (by omega)]
      refine ih (i + 1) (by omega) (by omega) ?_
      rw [List.drop_eq_getElem_cons hi, List.mem_cons] at hx
      rw [show (i + 1).toNat = i.toNat + 1 by omega]
      exact hx.resolve_left (fun e => c (by rw [hr, e]))
theorem has_yes (l : List Int) (x : Int) (hl : l.length ≤ 1000) (hx : x ∈ l) : Ev (fun k => laws_hasInt.f k l x) true := by
  unfold laws_hasInt.f
  exact has_l l x hl l.length 0 (by omega) (by omega) (by simpa using hx)
theorem parse_both (l : List UInt8) (hl : l.length ≤ 1048576) : ∃ p L a b c, Ev (fun k => spec_ParseField.f k (BA l)) (p, L, a, b, c) ∧ Ev (fun k => impl_ParseField.f k (BA l)) (p, L, a, b, c) := by
  unfold spec_ParseField.f
  by_cases h : ∃ p L a b, Fld p L a b ∧ l = textT p L a b
  · obtain ⟨p, L, a, b, hF, rfl⟩ := h
    exact ⟨p, L, a, b, 0, evB (spec_reads hF) (evT rfl (evS _)), impl_reads hF⟩
  · rcases spec_any l (by omega) with ⟨x1, x2, x3, x4, hE⟩ | h2
    · exact ⟨0, 0, 0, 0, 6, evB hE (evF (by simp) (evS _)), impl_none l hl (fun p L a b hF e => h ⟨p, L, a, b, hF, e⟩)⟩
    · exact absurd h2 h
/-- Behind a move that may be made: a field, fair, that its text tells. -/
theorem moved (P L R B g p i : Int) (hb : impl_IsField.f P L R B = some true) (hc : codeF P L R B g p true = 0) (hi : 0 ≤ i ∧ i ≤ P - 1) (ho : okP P L R B g p i = true) :
    Ev (fun k => impl_IsFairField.f k P L (mvR R p i) (mvB B p i) g) (true, 0) ∧ (∃ X, Ev (fun k => impl_FieldText.f k P L (mvR R p i) (mvB B p i)) (X, 0) ∧ Ev (fun k => impl_ParseField.f k X) (P, L, mvR R p i, mvB B p i, 0)) ∧ Ev (fun k => laws_hasInt.f k (ptsL P L R B g p) i) true := by
  obtain ⟨_, hg, hp⟩ := codeF_zero P L R B g p true hc
  have hq : okP P L R B g p i = ((col R B i == 0) && fairB P L (mvR R p i) (mvB B p i) g) := rfl
  obtain ⟨p0, p1⟩ := field_facts P L R B hb
  have hm : i ∈ ptsL P L R B g p := List.contains_iff_mem.1 (by rw [mem_pts P L R B g p i hi.1 (by omega)]; exact ho)
  have hlen := ptsL_len P L R B g p p1
  rw [hq, Bool.and_eq_true] at ho
  obtain ⟨n, l, a, b, rfl, rfl, rfl, rfl, hF⟩ := isField_fld P L R B hb
  obtain ⟨s1, s2, s3⟩ := hF.small
  obtain ⟨j, rfl⟩ := Int.eq_ofNat_of_zero_le hi.1
  have hd : dg a b j = 0 := by
    have h0 := col_dg a b (j : Int) (Nat.lt_trans s2 (by decide)) (Nat.lt_trans s3 (by decide)) (by omega) (by omega)
    have h1 := beq_iff_eq.1 ho.1
    rw [h1, Int.toNat_natCast] at h0
    omega
  obtain ⟨a', b', e1, e2, hT⟩ : ∃ a' b' : Nat, mvR (a : Int) p (j : Int) = a' ∧ mvB (b : Int) p (j : Int) = b' ∧ Two n a' b' := by
    unfold mvR mvB
    by_cases c : p = 0
    · rw [if_pos c, if_pos c]
      exact ⟨a ||| 2 ^ j, b, or_step a j (Nat.lt_trans s2 (by decide)) (by omega), rfl, hF.two.left (by omega) hd⟩
    · rw [if_neg c, if_neg c]
      exact ⟨a, b ||| 2 ^ j, rfl, or_step b j (Nat.lt_trans s3 (by decide)) (by omega), hF.two.right (by omega) hd⟩
  have hF2 : Fld n l a' b' := ⟨hF.p1, hF.p8, hF.l, hT⟩
  rw [e1, e2] at ho ⊢
  refine ⟨?_, ⟨BA (textT n l a' b'), form_impl hF2.is ⟨hF2.p1, hF2.p8⟩ hT, impl_reads hF2⟩, has_yes _ _ (by omega) hm⟩
  have := fair_yes (n : Int) (l : Int) (a' : Int) (b' : Int) g hF2.is hg
  rwa [ho.2] at this
end Go.Proofs.YtlmohkbimnhecaaGreatDoor.B
