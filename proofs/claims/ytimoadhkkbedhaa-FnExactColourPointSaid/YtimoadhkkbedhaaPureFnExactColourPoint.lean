/-
  The pure statement of the law FnExactColourPoint: program and reference tell the same field and code, whatever the arguments are.
-/
import Derived.Test.YtimoadhkkbedhaaQ26
import Derived.Test.YtimoadhkkbedhaaPointsSame
namespace Go.Proofs.Ytimoadhkkbedhaa.Pure
open Go.RowKit Go.Proofs.Ytimoadhkkbedhaa.Q Go.Proofs.YtimoadhkkbedhaaW.PrintWords Go.Proofs.YtimoadhkkbedhaaW.PrintLast Go.Proofs.YtimoadhkkbedhaaW.PrintMore Go.Proofs.Ytimoadhkkbedhaa.B

theorem index_l (l : List Int) (x : Int) (hl : l.length ≤ 1000000) (d : Nat) : ∀ i : Int, 0 ≤ i → (l.length : Int) = i + d → ∃ r : Int, (decide (r ≥ 0) = (l.drop i.toNat).contains x) ∧ Ev (fun k => slices_Index_int64_int64.l0 k l x (l.length : Int) i) r := by
  induction d with
  | zero =>
    intro i h0 h1
    refine ⟨-1, ?_, evSucc (fun k => by rw [slices_Index_int64_int64.l0]) (evF (by omega) (evS _))⟩
    rw [List.drop_eq_nil_of_le (by omega)]
    rfl
  | succ d ih =>
    intro i h0 h1
    have hi : i.toNat < l.length := by omega
    have hd : l.drop i.toNat = l[i.toNat] :: l.drop (i + 1).toNat := by rw [List.drop_eq_getElem_cons hi, show (i + 1).toNat = i.toNat + 1 by omega]
    have hr : rd l i = l[i.toNat] := by simp [rd, List.getD_eq_getElem?_getD, hi]
    by_cases c : x = rd l i
    · refine ⟨i, ?_, evSucc (fun k => by rw [slices_Index_int64_int64.l0]) (evT (by omega) (evT h0 (evT (by omega) (evT c (evS _)))))⟩
      rw [hd, decide_eq_true (by omega), c, hr]
      simp
    · obtain ⟨r, h2, h3⟩ := ih (i + 1) (by omega) (by omega)
      refine ⟨r, ?_, evSucc (fun k => by rw [slices_Index_int64_int64.l0]) (evT (by omega) (evT h0 (evT (by omega) (evF c (by rw [wrap_in (x := i + 1) (by omega) (by omega)]; exact h3)))))⟩
      rw [h2, hd, List.contains_cons, ← hr, show (x == rd l i) = false from beq_eq_false_iff_ne.2 c, Bool.false_or]
theorem contains_ev (l : List Int) (x : Int) (hl : l.length ≤ 1000000) : Ev (fun k => slices_Contains_int64_int64.f k l x) (l.contains x) := by
  obtain ⟨r, h1, h2⟩ := index_l l x hl l.length 0 (by omega) (by omega)
  unfold slices_Contains_int64_int64.f slices_Index_int64_int64.f
  refine evB h2 (evE ?_ (evS _))
  rw [h1]
  rfl
theorem mem_pts (P L R B g p i : Int) (h0 : 0 ≤ i) (h1 : i < P) : (ptsL P L R B g p).contains i = okP P L R B g p i := by
  rw [Bool.eq_iff_iff, List.contains_iff_mem]
  unfold ptsL
  rw [List.mem_filter, mem_seg]
  constructor
  · exact fun h => h.2
  · exact fun h => ⟨by omega, h⟩
theorem both (P L R B g p i : Int) : ∃ r : Int × Int × Int × Int × Int, Ev (fun k => spec_ColourPoint.f k P L R B g p i) r ∧ Ev (fun k => impl_ColourPoint.f k P L R B g p i) r := by
  unfold spec_ColourPoint.f impl_ColourPoint.f
  obtain ⟨b, hb⟩ := field_total P L R B
  have h1 := code_spec P L R B g p b hb
  have h2 := code_impl P L R B g p b hb
  rw [hb, within_eq, l01In_eq]
  have sj1 : ∀ c : Int, c ≠ 0 → Ev (fun k => spec_ColourPoint.j1 k g p i c P L R B) (0, 0, 0, 0, c) := fun c hc => evSucc (fun k => by rw [spec_ColourPoint.j1]) (evF hc (evS _))
  have ij1 : ∀ c : Int, c ≠ 0 → Ev (fun k => impl_ColourPoint.j1 k p i c false P L R B) (0, 0, 0, 0, c) := fun c hc => evSucc (fun k => by rw [impl_ColourPoint.j1]) (evF (by simp) (evF hc (evS _)))
  have ij0 : ∀ c : Int, c ≠ 0 → Ev (fun k => impl_ColourPoint.j0 k g p i c P L R B) (0, 0, 0, 0, c) := fun c hc => evSucc (fun k => by rw [impl_ColourPoint.j0]) (evF hc (ij1 c hc))
  cases b with
  | false =>
    have e : codeF P L R B g p false = 1 := rfl
    rw [e] at h1
    refine ⟨(0, 0, 0, 0, 1), evB h1 (evT rfl ?_), evG rfl (evG rfl (evB (first_two _ _ _ _) (evF (by simp) (evE (by simp) (ij0 1 (by decide))))))⟩
    exact evSucc (fun k => by rw [spec_ColourPoint.j0]) (evF (by simp) (sj1 1 (by decide)))
  | true =>
    obtain ⟨p0, p1⟩ := field_facts P L R B hb
    obtain ⟨hR, hB⟩ := field_sets P L R B hb
    have hw : wrap64 (P - 1) = P - 1 := wrap_in (by omega) (by omega)
    rw [hw]
    have hc1 : codeF P L R B g p true ≠ 1 := by unfold codeF; rw [if_pos rfl]; split <;> (try split) <;> decide
    by_cases hin : 0 ≤ i ∧ i ≤ P - 1
    · by_cases c : codeF P L R B g p true = 0
      · obtain ⟨_, hg, hp⟩ := codeF_zero P L R B g p true c
        rw [c] at h1 h2
        have hm := mem_pts P L R B g p i hin.1 (by omega)
        have hmv := move_spec P L R B p i hin.1 (by omega)
        have hco := coloured_impl P L R B p i hin.1
        have hd := or_digit R B i (by omega) (by omega) hin.1 (by omega)
        have hq : okP P L R B g p i = ((col R B i == 0) && fairB P L (mvR R p i) (mvB B p i) g) := rfl
        have start : ∀ r, (Ev (fun k => spec_ColourPoint.j1 k g p i 0 P L R B) r) → (Ev (fun k => impl_ColourPoint.j1 k p i 0 (!okP P L R B g p i) P L R B) r) →
            Ev (fun k => (spec_l05Player.f k P L R B g p).bind fun t278 => if t278 = 1 then spec_ColourPoint.j0 k g p i t278 false P L R B else (some (decide (0 ≤ i ∧ i ≤ P - 1))).bind fun t279 => spec_ColourPoint.j0 k g p i t278 (!t279) P L R B) r ∧
            Ev (fun k => (some true).bind fun t290 => (some (decide (0 ≤ i ∧ i ≤ P - 1))).bind fun t291 => (impl_first.f k [⟨t290, 1⟩, ⟨t291, 2⟩]).bind fun t295 => if t295 = 0 then (impl_fieldCode.f k P L R B g p).bind fun t296 => impl_ColourPoint.j0 k g p i t296 P L R B else impl_ColourPoint.j0 k g p i t295 P L R B) r := by
          intro r a1 a2
          rw [decide_eq_true hin]
          refine ⟨evB h1 (evF (by decide) (evG rfl (evSucc (fun k => by rw [spec_ColourPoint.j0]) (evF (by simp) a1)))), evG rfl (evG rfl (evB (first_two _ _ _ _) (evT (by simp) (evB h2 ?_))))⟩
          refine evSucc (fun k => by rw [impl_ColourPoint.j0]) (evT rfl (evB (points_impl P L R B g p ⟨p0, p1⟩) (evB (contains_ev (ptsL P L R B g p) i (by have := ptsL_len P L R B g p p1; omega)) ?_)))
          rw [hm]
          exact a2
        by_cases c2 : col R B i = 0
        · cases hf : fairB P L (mvR R p i) (mvB B p i) g with
          | true =>
            refine ⟨(P, L, mvR R p i, mvB B p i, 0), start _ ?_ ?_⟩
            · refine evSucc (fun k => by rw [spec_ColourPoint.j1]) (evT rfl ?_)
              rw [hmv, u64_at i hin.1 (by omega), hd]
              exact evG rfl (evT hin.1 (evF (by rw [if_pos c2]; decide) (evB (fair_spec P L _ _ g (by omega)) (evT hf (evS _)))))
            · rw [show okP P L R B g p i = true by rw [hq, hf, c2]; rfl]
              refine evSucc (fun k => by rw [impl_ColourPoint.j1]) (evF (by decide) (evT rfl ?_))
              rw [hco]
              exact evG rfl (evS _)
          | false =>
            refine ⟨(0, 0, 0, 0, 5), start _ ?_ ?_⟩
            · refine evSucc (fun k => by rw [spec_ColourPoint.j1]) (evT rfl ?_)
              rw [hmv, u64_at i hin.1 (by omega), hd]
              exact evG rfl (evT hin.1 (evF (by rw [if_pos c2]; decide) (evB (fair_spec P L _ _ g (by omega)) (evF (by simp [hf]) (evS _)))))
            · rw [hq, hf, Bool.and_false]
              refine evSucc (fun k => by rw [impl_ColourPoint.j1]) ?_
              exact evT rfl (evS _)
        · refine ⟨(0, 0, 0, 0, 5), start _ ?_ ?_⟩
          · refine evSucc (fun k => by rw [spec_ColourPoint.j1]) (evT rfl ?_)
            rw [hmv, u64_at i hin.1 (by omega), hd]
            exact evG rfl (evT hin.1 (evT (by rw [if_neg c2]) (evS _)))
          · rw [hq, show (col R B i == 0) = false from beq_eq_false_iff_ne.2 c2, Bool.false_and]
            refine evSucc (fun k => by rw [impl_ColourPoint.j1]) ?_
            exact evT rfl (evS _)
      · rw [decide_eq_true hin]
        refine ⟨(0, 0, 0, 0, codeF P L R B g p true), evB h1 (evF hc1 (evG rfl (evSucc (fun k => by rw [spec_ColourPoint.j0]) (evF (by simp) (sj1 _ c))))), evG rfl (evG rfl (evB (first_two _ _ _ _) (evT (by simp) (evB h2 (ij0 _ c)))))⟩
    · rw [decide_eq_false hin]
      refine ⟨(0, 0, 0, 0, 2), evB h1 (evF hc1 (evG rfl (evSucc (fun k => by rw [spec_ColourPoint.j0]) (evT (by decide) (sj1 2 (by decide)))))), evG rfl (evG rfl (evB (first_two _ _ _ _) (evF (by simp) (evE (by simp) (ij0 2 (by decide))))))⟩

theorem FnExactColourPoint (P L R B g p i : Int) (_ : (Lit.int .i64 P).wf = true) (_ : (Lit.int .i64 L).wf = true) (_ : (Lit.int .i64 R).wf = true) (_ : (Lit.int .i64 B).wf = true) (_ : (Lit.int .i64 g).wf = true) (_ : (Lit.int .i64 p).wf = true) (_ : (Lit.int .i64 i).wf = true) : Ev (fun k => laws_FnExactColourPoint.f k P L R B g p i) true := by
  unfold laws_FnExactColourPoint.f
  obtain ⟨⟨r1, r2, r3, r4, r5⟩, hs, hi⟩ := both P L R B g p i
  refine evG (by unfold laws_toField.f; rfl) (evB hs (evG (by unfold laws_toField.f; rfl) (evB hi (evG (a := true) (by unfold laws_eqField.f; simp) (evT rfl (evT rfl (evS _)))))))
end Go.Proofs.Ytimoadhkkbedhaa.Pure
