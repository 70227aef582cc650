/-
  The pure statement of the law FnExactSafeEdges: program and reference tell the same edges, and the marks hold, whatever the argument is.
-/
import Derived.Test.YtlnngnccengdjaaQ28
import Derived.Test.YtlnngnccengdjaaBoxAdd
import Derived.Test.YtlnngnccengdjaaAnyEv
namespace Go.Proofs.Ytlnngnccengdjaa.Pure
open Go.RowKit Go.Proofs.Ytlnngnccengdjaa.Q Go.Proofs.YtlnngnccengdjaaW.PrintWords Go.Proofs.YtlnngnccengdjaaW.PrintLast Go.Proofs.Ytlnngnccengdjaa.B

/-- Does the edge leave box i alone? -/
def calm (W H E e i : Int) : Bool := !(drawnN W H (addE E e) i == 3) || drawnN W H E i == 3
/-- Is the edge safe? -/
def safeB (W H E e : Int) : Bool := (seg 0 (W * H).toNat).all (calm W H E e)
section
variable (W H E : Int) (h : isBoxB W H E = true)
include h
theorem facts : (1 ≤ W ∧ W ≤ 3) ∧ (1 ≤ H ∧ H ≤ 3) ∧ 0 ≤ E ∧ E < 9223372036854775808 ∧ wrap64 (W * H) = W * H ∧ 1 ≤ W * H ∧ W * H ≤ 9 := by
  obtain ⟨h1, h2, h3, h4⟩ := (isBoxB_iff W H E).1 h
  obtain ⟨_, _, _, _, _, _, f7, _, f9, f10, f11⟩ := cnt_facts W H h1.1 h1.2 h2.1 h2.2
  exact ⟨h1, h2, h3, by omega, f9, f10, f11⟩
theorem free_in (e : Int) (he : e ∈ freeL W H E) : 0 ≤ e ∧ e < cnt W H := by
  obtain ⟨h1, h2, h3, h4⟩ := (isBoxB_iff W H E).1 h
  obtain ⟨_, f2, _⟩ := cnt_facts W H h1.1 h1.2 h2.1 h2.2
  unfold freeL at he
  have := (mem_seg _ _ _).1 (List.mem_filter.1 he).1
  omega
theorem safe_impl (e : Int) (h0 : 0 ≤ e) (h1 : e < cnt W H) : Ev (fun k => safeP k W H E e) (!safeB W H E e) := by
  obtain ⟨f1, f2, f3, f4, f5, f6, f7⟩ := facts W H E h
  obtain ⟨g1, g2, g3, g4, _⟩ := facts W H (addE E e) (addE_range W H E e h h0 h1)
  unfold safeP
  refine evB (add_impl W H E e h h0 h1) (evB (with_impl W H (addE E e) 3 f1 f2 g3 g4) (evE ?_ (anyF_ev _ (fun i => drawnN W H E i != 3) _ (fun i hi => ?_))))
  · unfold safeB withL
    rw [List.any_filter, List.all_eq_not_any_not, Bool.not_not]
    congr 1
    funext i
    unfold calm
    cases (drawnN W H (addE E e) i == 3) <;> cases hq : (drawnN W H E i == 3) <;> simp_all
  · have hm := (mem_seg _ _ _).1 (List.mem_filter.1 hi).1
    have hd := drawn_impl W H E i f1 f2 hm.1 (by omega) f3 f4
    unfold safe1P
    obtain ⟨K, hK⟩ := hd
    exact ⟨K, fun k hk => by have e := hK k hk; simp only at e ⊢; rw [e]; rfl⟩
theorem safe_spec_in (e : Int) (h0 : 0 ≤ e) (h1 : e < cnt W H) (F acc : List Int) (j : Nat) (hj : j < F.length) (he : rd F (j : Int) = e) (ha : acc.length ≤ j) (hF : F.length ≤ 24) (r : List Int × Int)
    (hk : Ev (fun k => spec_SafeEdges.l0 k F (if safeB W H E e = true then acc ++ [e] else acc) ((j + 1 : Nat) : Int) W H E) r) (d : Nat) : ∀ (i : Int) (g : Bool), 0 ≤ i → i + d = W * H → (g && (seg i d).all (calm W H E e)) = safeB W H E e →
    Ev (fun k => spec_SafeEdges.l1 k F acc j g i W H E W H (addE E e)) r := by
  obtain ⟨f1, f2, f3, f4, f5, f6, f7⟩ := facts W H E h
  obtain ⟨g1, g2, g3, g4, _⟩ := facts W H (addE E e) (addE_range W H E e h h0 h1)
  induction d with
  | zero =>
    intro i g i0 i1 hg
    simp only [seg, List.all_nil, Bool.and_true] at hg
    refine evSucc (fun k => by rw [spec_SafeEdges.l1]) ?_
    rw [f5, wrap_in (x := (j : Int) + 1) (by omega) (by omega)]
    refine evF (by omega) ?_
    cases g with
    | true => exact evT rfl (evT (by omega) (evT (by omega) (evT (by omega) (by rw [he]; rw [← hg, if_pos rfl] at hk; exact hk))))
    | false => exact evF (by simp) (by rw [← hg, if_neg (by simp)] at hk; exact hk)
  | succ d ih =>
    intro i g i0 i1 hg
    refine evSucc (fun k => by rw [spec_SafeEdges.l1]) ?_
    rw [f5, wrap_in (x := i + 1) (by omega) (by omega)]
    refine evT (by omega) ?_
    simp only [seg, List.all_cons] at hg
    cases g with
    | false => exact evF (by simp) (ih (i + 1) false (by omega) (by omega) (by simpa using hg))
    | true =>
      refine evT rfl (evB (drawn_spec W H (addE E e) i f1 f2 i0 (by omega) g3 g4) ?_)
      by_cases c : drawnN W H (addE E e) i = 3
      · refine evT c (evB (drawn_spec W H E i f1 f2 i0 (by omega) f3 f4) (ih (i + 1) _ (by omega) (by omega) ?_))
        rw [← hg]
        simp [calm, c]
      · refine evF c (ih (i + 1) true (by omega) (by omega) ?_)
        rw [← hg]
        simp [calm, c]
theorem safe_spec_l (F : List Int) (hF : F.length ≤ 24) (hin : ∀ e ∈ F, 0 ≤ e ∧ e < cnt W H) (rest : List Int) : ∀ (j : Nat) (acc : List Int), F.drop j = rest → acc.length ≤ j →
    Ev (fun k => spec_SafeEdges.l0 k F acc j W H E) (acc ++ rest.filter (safeB W H E), 0) := by
  obtain ⟨f1, f2, f3, f4, f5, f6, f7⟩ := facts W H E h
  induction rest with
  | nil =>
    intro j acc hd ha
    have hj := List.drop_eq_nil_iff.1 hd
    refine evSucc (fun k => by rw [spec_SafeEdges.l0]) ?_
    exact evF (by omega) (evE (by simp) (evS _))
  | cons e rest ih =>
    intro j acc hd ha
    have hj : j < F.length := by
      rcases Nat.lt_or_ge j F.length with c | c
      · exact c
      · rw [List.drop_eq_nil_of_le c] at hd; cases hd
    have e1 := List.drop_eq_getElem_cons hj
    rw [hd] at e1
    injection e1 with e2 e3
    have hrd : rd F (j : Int) = e := by
      unfold rd
      rw [Int.toNat_natCast, List.getD_eq_getElem?_getD, List.getElem?_eq_getElem hj, e2]
      rfl
    obtain ⟨h0, h1⟩ := hin e (by rw [e2]; exact List.getElem_mem hj)
    refine evSucc (fun k => by rw [spec_SafeEdges.l0]) ?_
    rw [hrd]
    refine evT (by omega) (evT (by omega) (evB (move_spec W H E e h h0 h1) ?_))
    refine safe_spec_in W H E h e h0 h1 F acc j hj hrd ha hF _ ?_ (W * H).toNat 0 true (by omega) (by omega) (by simp [safeB])
    have hl2 : (if safeB W H E e = true then acc ++ [e] else acc).length ≤ j + 1 := by
      split
      · simp
        omega
      · omega
    have := ih (j + 1) (if safeB W H E e = true then acc ++ [e] else acc) e3.symm hl2
    refine evE ?_ this
    rw [List.filter_cons]
    split <;> simp
end
theorem safe_both (W H E : Int) : ∃ (l : List Int) (c : Int), l.length ≤ 24 ∧ Ev (fun k => spec_SafeEdges.f k W H E) (l, c) ∧ Ev (fun k => impl_SafeEdges.f k W H E) (l, c) := by
  unfold spec_SafeEdges.f impl_SafeEdges.f
  rw [isBox_impl, isBox_spec]
  cases h : isBoxB W H E with
  | true =>
    have hF := freeL_len W H E h
    refine ⟨(freeL W H E).filter (safeB W H E), 0, Nat.le_trans (List.length_filter_le _ _) hF, evG rfl (evT rfl (evB (free_spec W H E h) ?_)), evG rfl (evT rfl (evG (free_impl W H E h) (evB (a := (freeL W H E).filter (safeB W H E)) ?_ (evS _))))⟩
    · exact evE (by simp) (safe_spec_l W H E h (freeL W H E) hF (fun e he => free_in W H E h e he) (freeL W H E) 0 [] rfl (by simp))
    · unfold del_SafeEdges.f
      refine evE ?_ (delP_ev _ (fun e => !safeB W H E e) _ (fun e he => ?_))
      · congr 1
        funext e
        simp
      · obtain ⟨h0, h1⟩ := free_in W H E h e he
        exact safe_impl W H E h e h0 h1
  | false => exact ⟨[], 1, by simp, evG rfl (evF (by simp) (evS _)), evG rfl (evF (by simp) (evS _))⟩
theorem FnExactSafeEdges (W H E : Int) (_ : (Lit.int .i64 W).wf = true) (_ : (Lit.int .i64 H).wf = true) (_ : (Lit.int .i64 E).wf = true) : Ev (fun k => laws_FnExactSafeEdges.f k W H E) true := by
  unfold laws_FnExactSafeEdges.f
  obtain ⟨l, c, hl, hs, hi⟩ := safe_both W H E
  refine evG (by unfold laws_toBoxes.f; rfl) (evB hs (evG (by unfold laws_toBoxes.f; rfl) (evB hi (evB (eqInts l (by omega)) (evT (by rfl) ?_)))))
  refine evSucc (fun k => by rw [laws_FnExactSafeEdges.j0]) ?_
  refine evF (by simp) (evB (markInts l 1 (by omega) (by omega)) (evB (heldInts l.length 1 (by omega) (by omega)) (evF (by omega) (evT (by rfl) ?_))))
  refine evG (by unfold laws_toBoxes.f; rfl) (evB hi (evB (eqInts l (by omega)) (evT (by rfl) ?_)))
  refine evSucc (fun k => by rw [laws_FnExactSafeEdges.j1]) ?_
  exact evF (by simp) (evB (heldInts l.length 1 (by omega) (by omega)) (evF (by omega) (evT (by rfl) (evS _))))
end Go.Proofs.Ytlnngnccengdjaa.Pure
