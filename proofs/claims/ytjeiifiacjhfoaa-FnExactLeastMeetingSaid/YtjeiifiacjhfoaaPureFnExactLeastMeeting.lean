/-
  The pure statement of the law FnExactLeastMeeting: program and reference tell the same set and code, and the board stays as it was, whatever the board.
-/
import Derived.Test.YtjeiifiacjhfoaaQ34
import Derived.Test.YtjeiifiacjhfoaaBoardSame
import Derived.Test.YtjeiifiacjhfoaaBoardCount
import Derived.Test.YtjeiifiacjhfoaaBoardEv
namespace Go.Proofs.Ytjeiifiacjhfoaa.Pure
open Go.RowKit Go.Proofs.Ytjeiifiacjhfoaa.Q Go.Proofs.YtjeiifiacjhfoaaW.PrintWords Go.Proofs.YtjeiifiacjhfoaaW.PrintLast Go.Proofs.YtjeiifiacjhfoaaW.PrintMore Go.Proofs.Ytjeiifiacjhfoaa.B

def qM (s x : Int) : Bool := !(Go.bits .and .i64 x s == 0)
/-- Does the set meet all lines? -/
def meetB (L : List Int) (s : Int) : Bool := L.all (qM s)
def lessP (a b : Int) : Prop := popI a < popI b ∨ (popI a = popI b ∧ a < b)
/-- The least of all sets in a range that meet all lines, and of the full set. -/
def bestIn (F : Int) (L : List Int) (lo hi b : Int) : Prop := (b = F ∨ (lo ≤ b ∧ b < hi ∧ meetB L b = true)) ∧ (∀ t, lo ≤ t → t < hi → meetB L t = true → ¬ lessP t b) ∧ ¬ lessP F b ∧ 0 ≤ b ∧ b ≤ F
theorem any_eq (L : List Int) (s : Int) : any_LeastMeeting.f L s = some (!meetB L s) := by
  unfold any_LeastMeeting.f meetB
  exact anyF_all (qM s) _ (fun x => by unfold qM; simp) L
theorem impl_l (n : Int) (L : List Int) (F : Int) (hF : 1 ≤ F ∧ F ≤ 65535) (d : Nat) : ∀ s b : Int, 0 ≤ s → s + d = F + 1 → bestIn F L 0 s b → ∃ b', bestIn F L 0 (F + 1) b' ∧ Ev (fun k => impl_LeastMeeting.l0 k b (F + 1) s n L) (b', 0) := by
  induction d with
  | zero =>
    intro s b h0 h1 hb
    obtain rfl : s = F + 1 := by omega
    exact ⟨b, hb, evSucc (fun k => by rw [impl_LeastMeeting.l0]) (evF (by omega) (evS _))⟩
  | succ d ih =>
    intro s b h0 h1 hb
    obtain ⟨b1, b2, b3, b4, b5⟩ := hb
    have hw : wrap64 (s + 1) = s + 1 := wrap_in (by omega) (by omega)
    have e1 := many_eq s h0 (by omega)
    have e2 := many_eq b b4 (by omega)
    have keep : (meetB L s = true → ¬ lessP s b) → bestIn F L 0 (s + 1) b := fun hk => by
      refine ⟨?_, fun t h2 h3 h4 => ?_, b3, b4, b5⟩
      · rcases b1 with h | ⟨h, h', h''⟩
        · exact .inl h
        · exact .inr ⟨h, by omega, h''⟩
      · by_cases e : t = s
        · rw [e] at h4 ⊢
          exact hk h4
        · exact b2 t h2 (by omega) h4
    have take : meetB L s = true → lessP s b → bestIn F L 0 (s + 1) s := fun hm hl => by
      refine ⟨.inr ⟨h0, by omega, hm⟩, fun t h2 h3 h4 h5 => ?_, fun h5 => b3 ?_, h0, by omega⟩
      · by_cases e : t = s
        · subst e
          unfold lessP at h5
          omega
        · refine b2 t h2 (by omega) h4 ?_
          unfold lessP at h5 hl ⊢
          omega
      · unfold lessP at h5 hl ⊢
        omega
    have go : ∀ x, bestIn F L 0 (s + 1) x → ∃ b', bestIn F L 0 (F + 1) b' ∧ Ev (fun k => impl_LeastMeeting.l0 k x (F + 1) (wrap64 (s + 1)) n L) (b', 0) := fun x hx => by
      rw [hw]
      exact ih (s + 1) x (by omega) (by omega) hx
    have step : ∀ (x b' : Int), Ev (fun k => impl_LeastMeeting.l0 k x (F + 1) (wrap64 (s + 1)) n L) (b', 0) →
        ((meetB L s = false ∧ x = b) ∨ (meetB L s = true ∧ ((lessP s b ∧ x = s) ∨ (¬ lessP s b ∧ x = b)))) → Ev (fun k => impl_LeastMeeting.l0 k b (F + 1) s n L) (b', 0) := fun x b' hx hc => by
      refine evSucc (fun k => by rw [impl_LeastMeeting.l0]) ?_
      rw [any_eq, e1, e2]
      refine evT (by omega) (evG rfl ?_)
      rcases hc with ⟨hm, rfl⟩ | ⟨hm, hc⟩
      · exact evT (by rw [hm]; rfl) hx
      · refine evF (by rw [hm]; decide) (evG rfl (evG rfl ?_))
        rcases hc with ⟨hl, rfl⟩ | ⟨hl, rfl⟩
        · by_cases c : popI x < popI b
          · exact evT c hx
          · unfold lessP at hl
            exact evF c (evT (by omega) (evT (by omega) hx))
        · unfold lessP at hl
          refine evF (by omega) ?_
          by_cases c : popI s = popI x
          · exact evT c (evF (by omega) hx)
          · exact evF c hx
    cases hm : meetB L s with
    | false =>
      obtain ⟨b', h2, h3⟩ := go b (keep (fun h => by rw [hm] at h; cases h))
      exact ⟨b', h2, step b b' h3 (.inl ⟨hm, rfl⟩)⟩
    | true =>
      by_cases c : lessP s b
      · obtain ⟨b', h2, h3⟩ := go s (take hm c)
        exact ⟨b', h2, step s b' h3 (.inr ⟨hm, .inl ⟨c, rfl⟩⟩)⟩
      · obtain ⟨b', h2, h3⟩ := go b (keep (fun _ => c))
        exact ⟨b', h2, step b b' h3 (.inr ⟨hm, .inr ⟨c, rfl⟩⟩)⟩
theorem spec_in (n : Int) (L : List Int) (b s : Int) (r : Int × Int) (hl : L.length ≤ 1000) (h1 : meetB L s = true → Ev (fun k => spec_LeastMeeting.l0 k s (wrap64 (s - 1)) n L) r) (h2 : meetB L s = false → Ev (fun k => spec_LeastMeeting.l0 k b (wrap64 (s - 1)) n L) r) (d : Nat) :
    ∀ (i : Int) (f : Bool), 0 ≤ i → (L.length : Int) = i + d → (f && (L.drop i.toNat).all (qM s)) = meetB L s → Ev (fun k => spec_LeastMeeting.l1 k b s f i n L) r := by
  induction d with
  | zero =>
    intro i f h0 he hf
    refine evSucc (fun k => by rw [spec_LeastMeeting.l1]) ?_
    rw [List.drop_eq_nil_of_le (by omega), List.all_nil, Bool.and_true] at hf
    refine evF (by omega) ?_
    cases f with
    | true => exact evT rfl (h1 hf.symm)
    | false => exact evF (by simp) (h2 hf.symm)
  | succ d ih =>
    intro i f h0 he hf
    refine evSucc (fun k => by rw [spec_LeastMeeting.l1]) ?_
    refine evT (by omega) ?_
    cases f with
    | false => exact evF (by simp) (h2 (by rw [← hf]; rfl))
    | true =>
      refine evT rfl (evT h0 ?_)
      have hi : i.toNat < L.length := by omega
      have hr : rd L i = L[i.toNat] := by simp [rd, List.getD_eq_getElem?_getD, hi]
      rw [wrap_in (x := i + 1) (by omega) (by omega)]
      refine ih (i + 1) _ (by omega) (by omega) ?_
      rw [← hf, List.drop_eq_getElem_cons hi, List.all_cons, show (i + 1).toNat = i.toNat + 1 by omega, hr]
      rfl
set_option maxHeartbeats 2000000 in
theorem spec_l (n : Int) (L : List Int) (F : Int) (hF : 1 ≤ F ∧ F ≤ 65535) (hl : L.length ≤ 1000) (d : Nat) : ∀ s b : Int, s + 1 = d → s < F → bestIn F L (s + 1) F b → ∃ b', bestIn F L 0 F b' ∧ Ev (fun k => spec_LeastMeeting.l0 k b s n L) (b', 0) := by
  induction d with
  | zero =>
    intro s b h0 h1 hb
    obtain rfl : s = -1 := by omega
    exact ⟨b, hb, evSucc (fun k => by rw [spec_LeastMeeting.l0]) (evF (by omega) (evS _))⟩
  | succ d ih =>
    intro s b h0 h1 hb
    obtain ⟨b1, b2, b3, b4, b5⟩ := hb
    have hw : wrap64 (s - 1) = s - 1 := wrap_in (by omega) (by omega)
    have go : ∀ x, bestIn F L s F x → ∃ b', bestIn F L 0 F b' ∧ Ev (fun k => spec_LeastMeeting.l0 k x (wrap64 (s - 1)) n L) (b', 0) := fun x hx => by
      rw [hw]
      exact ih (s - 1) x (by omega) (by omega) (by rw [show s - 1 + 1 = s by omega]; exact hx)
    have hlt : s < b := by
      rcases b1 with h | ⟨h, _, _⟩ <;> omega
    have keep : (meetB L s = true → ¬ lessP s b) → bestIn F L s F b := fun hk => by
      refine ⟨?_, fun t h2 h3 h4 => ?_, b3, b4, b5⟩
      · rcases b1 with h | ⟨h, h', h''⟩
        · exact .inl h
        · exact .inr ⟨by omega, h', h''⟩
      · by_cases e : t = s
        · rw [e] at h4 ⊢
          exact hk h4
        · exact b2 t (by omega) h3 h4
    have take : meetB L s = true → lessP s b → bestIn F L s F s := fun hm hl' => by
      refine ⟨.inr ⟨by omega, h1, hm⟩, fun t h2 h3 h4 h5 => ?_, fun h5 => b3 ?_, by omega, by omega⟩
      · by_cases e : t = s
        · subst e
          unfold lessP at h5
          omega
        · refine b2 t (by omega) h3 h4 ?_
          unfold lessP at h5 hl' ⊢
          omega
      · unfold lessP at h5 hl' ⊢
        omega
    have o1 := ones_eq s (by omega) (by omega)
    have o2 := ones_eq b b4 (by omega)
    by_cases c : popI s > popI b
    · obtain ⟨b', h2, h3⟩ := go b (keep (fun _ h => by unfold lessP at h; omega))
      refine ⟨b', h2, ?_⟩
      refine evSucc (fun k => by rw [spec_LeastMeeting.l0]) ?_
      exact evT (by omega) (evB o1 (evB o2 (evT c h3)))
    · have hless : lessP s b := by unfold lessP; omega
      cases hm : meetB L s with
      | true =>
        obtain ⟨b', h2, h3⟩ := go s (take hm hless)
        refine ⟨b', h2, ?_⟩
        refine evSucc (fun k => by rw [spec_LeastMeeting.l0]) ?_
        refine evT (by omega) (evB o1 (evB o2 (evF c ?_)))
        exact spec_in n L b s _ hl (fun _ => h3) (fun h => by rw [hm] at h; cases h) L.length 0 true (by omega) (by omega) (by simp [meetB])
      | false =>
        obtain ⟨b', h2, h3⟩ := go b (keep (fun h => by rw [hm] at h; cases h))
        refine ⟨b', h2, ?_⟩
        refine evSucc (fun k => by rw [spec_LeastMeeting.l0]) ?_
        refine evT (by omega) (evB o1 (evB o2 (evF c ?_)))
        exact spec_in n L b s _ hl (fun h => by rw [hm] at h; cases h) (fun _ => h3) L.length 0 true (by omega) (by omega) (by simp [meetB])
theorem both (n : Int) (L : List Int) (h : L.length ≤ 1048576) : ∃ r : Int × Int, Ev (fun k => spec_LeastMeeting.f k n L) r ∧ Ev (fun k => impl_LeastMeeting.f k n L) r := by
  unfold spec_LeastMeeting.f impl_LeastMeeting.f
  cases hb : boardB n L with
  | true =>
    obtain ⟨a, b, -⟩ := (boardB_iff n L).1 hb
    obtain ⟨f1, f2, f3, f4, f5⟩ := full_shl n a
    have nl : ¬ lessP (full n) (full n) := by unfold lessP; omega
    obtain ⟨x, hx, ex⟩ := impl_l n L (full n) ⟨f2, f3⟩ (full n + 1).toNat 0 (full n) (by omega) (by omega) ⟨.inl rfl, fun t h1 h2 => by omega, nl, by omega, by omega⟩
    obtain ⟨y, hy, ey⟩ := spec_l n L (full n) ⟨f2, f3⟩ (by omega) (full n).toNat (full n - 1) (full n) (by omega) (by omega) ⟨.inl rfl, fun t h1 h2 => by omega, nl, by omega, by omega⟩
    have e : x = y := by
      have m1 : ¬ lessP x y := by
        rcases hx.1 with h1 | ⟨h1, h2, h3⟩
        · rw [h1]; exact hy.2.2.1
        · by_cases e : x = full n
          · rw [e]; exact hy.2.2.1
          · exact hy.2.1 x h1 (by omega) h3
      have m2 : ¬ lessP y x := by
        rcases hy.1 with h1 | ⟨h1, h2, h3⟩
        · rw [h1]; exact hx.2.2.1
        · exact hx.2.1 y h1 (by omega) h3
      unfold lessP at m1 m2
      omega
    subst e
    rw [f4, f1, wrap_in (x := full n - 1) (by omega) (by omega), f5]
    exact ⟨(x, 0), evB (hb ▸ board_spec n L (by omega)) (evT rfl (evT (by omega) ey)), evB (hb ▸ board_impl n L (by omega)) (evT rfl (evT (by omega) ex))⟩
  | false => exact ⟨(0, 1), evB (hb ▸ board_spec n L (by omega)) (evF (by simp) (evS _)), evB (hb ▸ board_impl n L (by omega)) (evF (by simp) (evS _))⟩

theorem FnExactLeastMeeting (n : Int) (L : List Int) (_ : (Lit.int .i64 n).wf = true) (hm : L.length ≤ maxLen) (_ : ∀ x ∈ L, (Lit.int .i64 x).wf = true) : Ev (fun k => laws_FnExactLeastMeeting.f k n L) true := by
  unfold laws_FnExactLeastMeeting.f
  by_cases h : L.length ≤ 1048576
  · obtain ⟨r, hs, hi⟩ := both n L h
    rw [szB_ok n L h]
    refine evG rfl (evF (by omega) (evB (toB n L h) (evB hs (evB (toB n L h) (evB hi (evT rfl ?_))))))
    refine evSucc (fun k => by rw [laws_FnExactLeastMeeting.j0]) ?_
    exact evF (by simp) (evB (toB n L h) (evB (eqB n L h) (evT rfl (evS _))))
  · rw [szB_big n L hm (by omega)]
    exact evG rfl (evT (by omega) (evS _))
end Go.Proofs.Ytjeiifiacjhfoaa.Pure
