/-
  Net scores, best edges and plays: program and reference tell the same; plays draw all free edges and bring the net score. Whatever the position is.
-/
import Derived.Test.YtelfllbjcpndfaaQ4
import Derived.Test.YtelfllbjcpndfaaQ4b
import Derived.Test.YtelfllbjcpndfaaQ5
import Derived.Test.YtelfllbjcpndfaaQ2
import Derived.Test.YtelfllbjcpndfaaQ3
import Derived.Test.YtelfllbjcpndfaaBoxTable
import Derived.Test.YtelfllbjcpndfaaBoxMirror
import Derived.Test.YtelfllbjcpndfaaOutNet
import Derived.Test.YtelfllbjcpndfaaOutPlay
import Derived.Test.YtelfllbjcpndfaaScoreDefs
namespace Go.Proofs.Ytelfllbjcpndfaa.B
open Go.RowKit Go.Proofs.Ytelfllbjcpndfaa.Q Go.Proofs.YtelfllbjcpndfaaW.PrintWords Go.Proofs.YtelfllbjcpndfaaW.PrintLast Go.Proofs.YtelfllbjcpndfaaW.PrintMore

theorem bestL_cons {W H : Int} {a : Nat} (h : isBoxB W H a = true) (hf : freeL W H a ≠ []) : ∃ e rest, bestL W H a = e :: rest ∧ e ∈ freeL W H a ∧ bh (sc W H) W H a e = sc W H a := by
  obtain ⟨x, hx, he⟩ := best_at (bh (sc W H) W H a) _ hf
  rw [← sc_eq h] at he
  have hm : x ∈ bestL W H a := List.mem_filter.2 ⟨hx, by simp [he]⟩
  cases hb : bestL W H a with
  | nil => rw [hb] at hm; cases hm
  | cons e rest =>
    obtain ⟨m1, m2⟩ := List.mem_filter.1 (show e ∈ bestL W H a by rw [hb]; exact List.mem_cons_self)
    exact ⟨e, rest, rfl, m1, by simpa using m2⟩
/-- The play from a position on. -/
def playM (W H : Int) : Nat → Nat → List Int
  | 0, _ => []
  | d + 1, a => match bestL W H a with
    | [] => []
    | e :: _ => e :: playM W H d (put a e)
theorem play_impl (W H : Int) (m : Nat) : ∀ (a d : Nat) (acc : List Int), isBoxB W H a = true → (freeL W H a).length = m → m ≤ 12 → m < d → acc.length + m ≤ 24 → Ev (fun k => playL k W H d a (bestL W H a) acc) (acc ++ playM W H m a) := by
  induction m with
  | zero =>
    intro a d acc h hm _ hd hacc
    obtain ⟨d, rfl⟩ : ∃ n, d = n + 1 := ⟨d - 1, by omega⟩
    have hb : bestL W H a = [] := by unfold bestL; rw [List.eq_nil_of_length_eq_zero hm]; rfl
    simp only [playL]
    rw [hb]
    exact evF (by simp) (evE (by simp [playM]) (evS _))
  | succ m ih =>
    intro a d acc h hm h12 hd hacc
    obtain ⟨d, rfl⟩ : ∃ n, d = n + 1 := ⟨d - 1, by omega⟩
    obtain ⟨e, rest, hb, he, _⟩ := bestL_cons h (fun c => by rw [c] at hm; simp at hm)
    obtain ⟨h0, h1, _⟩ := (mem_free h e).1 he
    have hl := free_put_len h e he
    have hp := put_box h e h0 h1
    simp only [playL, playM]
    rw [hb]
    have hrd : rd (e :: rest) 0 = e := rfl
    rw [hrd]
    refine evT (by simp) (evT (by omega) (evB (add_impl W H a e h h0 h1) ?_))
    simp only
    rw [addE_put h e h0 h1]
    refine evB (best_impl W H (put a e) hp (by omega)) (evE ?_ (ih (put a e) d (acc ++ [e]) hp (by omega) (by omega) (by omega) (by simp; omega)))
    simp
theorem play_spec (W H : Int) (o : Nat) (hF : (freeL W H o).length ≤ 12) (m : Nat) : ∀ (a : Nat) (acc T : List Int), okT W H o a → (freeL W H a).length = m → acc.length + m = (freeL W H o).length → TabS W H o T →
    Ev (fun k => spec_PlayBoxes.l0 k (freeL W H o) acc T W H a) (acc ++ playM W H m a, 0) := by
  induction m with
  | zero =>
    intro a acc T ha hm hacc hT
    refine evSucc (fun k => by rw [spec_PlayBoxes.l0]) ?_
    exact evF (by omega) (evE (by simp [playM]) (evS _))
  | succ m ih =>
    intro a acc T ha hm hacc hT
    obtain ⟨e, rest, hb, he, _⟩ := bestL_cons ha.1 (fun c => by rw [c] at hm; simp at hm)
    obtain ⟨h0, h1, _⟩ := (mem_free ha.1 e).1 he
    have hl := free_put_len ha.1 e he
    obtain ⟨T', h3, h4⟩ := best_spec W H o hF a ha T hT
    have h5 := ih (put a e) (acc ++ [e]) T' (okT_put ha e he) (by omega) (by simp; omega) h4
    refine evSucc (fun k => by rw [spec_PlayBoxes.l0]) ?_
    rw [hb] at h3
    have hrd : rd (e :: rest) 0 = e := rfl
    refine evT (by omega) (evB h3 (evT (by simp) (evT (by omega) ?_)))
    rw [hrd]
    refine evB (move_spec W H a e ha.1 h0 h1) ?_
    simp only
    rw [addE_put ha.1 e h0 h1]
    refine evE ?_ h5
    simp only [playM]
    rw [hb]
    simp
theorem play_len {W H : Int} (m : Nat) : ∀ a : Nat, isBoxB W H a = true → (freeL W H a).length = m → (playM W H m a).length = m := by
  induction m with
  | zero => intro a h hm; rfl
  | succ m ih =>
    intro a h hm
    obtain ⟨e, rest, hb, he, _⟩ := bestL_cons h (fun c => by rw [c] at hm; simp at hm)
    obtain ⟨h0, h1, _⟩ := (mem_free h e).1 he
    have hl := free_put_len h e he
    simp only [playM, hb, List.length_cons]
    rw [ih (put a e) (put_box h e h0 h1) (by omega)]
/-- What the three questions are answered, on both sides. -/
theorem net_both (W H E : Int) : ∃ (r : Int), Ev (fun k => spec_NetScore.f k W H E) (r, codeN W H E) ∧ Ev (fun k => impl_NetScore.f k W H E) (r, codeN W H E) ∧ (codeN W H E = 0 → r = sc W H E.toNat) := by
  unfold spec_NetScore.f impl_NetScore.f
  have h1 := given_spec W H E
  have h2 := code_impl W H E
  by_cases c : codeN W H E = 0
  · obtain ⟨hb, hF⟩ := codeN_zero W H E c
    rw [c] at h1 h2 ⊢
    obtain ⟨_, _, h0, _⟩ := (isBoxB_iff W H E).1 hb
    obtain ⟨a, rfl⟩ := Int.eq_ofNat_of_zero_le h0
    obtain ⟨T', h3, _⟩ := score_spec W H a hF 14 a _ ⟨hb, hb, fun _ _ => rfl⟩ (by omega) (TabS.new W H a)
    exact ⟨sc W H a, evB h1 (evT rfl (evB (free_spec W H a hb) (evB (table_spec _ hF) (evB h3 (evS _))))), evB h2 (evT rfl (evB (score_impl W H 14 a hb (by omega)) (evS _))), fun _ => rfl⟩
  · exact ⟨0, evB h1 (evF c (evS _)), evB h2 (evF c (evS _)), fun z => absurd z c⟩
theorem best_both (W H E : Int) : ∃ (l : List Int), l.length ≤ 24 ∧ Ev (fun k => spec_BestEdges.f k W H E) (l, codeN W H E) ∧ Ev (fun k => impl_BestEdges.f k W H E) (l, codeN W H E) ∧ (codeN W H E = 0 → l = bestL W H E.toNat) := by
  unfold spec_BestEdges.f impl_BestEdges.f
  have h1 := given_spec W H E
  have h2 := code_impl W H E
  by_cases c : codeN W H E = 0
  · obtain ⟨hb, hF⟩ := codeN_zero W H E c
    rw [c] at h1 h2 ⊢
    obtain ⟨_, _, h0, _⟩ := (isBoxB_iff W H E).1 hb
    obtain ⟨a, rfl⟩ := Int.eq_ofNat_of_zero_le h0
    obtain ⟨T', h3, _⟩ := best_spec W H a hF a ⟨hb, hb, fun _ _ => rfl⟩ _ (TabS.new W H a)
    exact ⟨bestL W H a, by unfold bestL; exact Nat.le_trans (List.length_filter_le _ _) (by omega), evB h1 (evT rfl (evB (free_spec W H a hb) (evB (table_spec _ hF) (evB h3 (evS _))))), evB h2 (evT rfl (evB (best_impl W H a hb hF) (evS _))), fun _ => rfl⟩
  · exact ⟨[], by simp, evB h1 (evF c (evS _)), evB h2 (evF c (evS _)), fun z => absurd z c⟩
theorem play_both (W H E : Int) : ∃ (l : List Int), l.length ≤ 24 ∧ Ev (fun k => spec_PlayBoxes.f k W H E) (l, codeN W H E) ∧ Ev (fun k => impl_PlayBoxes.f k W H E) (l, codeN W H E) ∧ (codeN W H E = 0 → l = playM W H (freeL W H E).length E.toNat) := by
  unfold spec_PlayBoxes.f impl_PlayBoxes.f
  have h1 := given_spec W H E
  have h2 := code_impl W H E
  by_cases c : codeN W H E = 0
  · obtain ⟨hb, hF⟩ := codeN_zero W H E c
    rw [c] at h1 h2 ⊢
    obtain ⟨_, _, h0, _⟩ := (isBoxB_iff W H E).1 hb
    obtain ⟨a, rfl⟩ := Int.eq_ofNat_of_zero_le h0
    have h3 := play_spec W H a hF (freeL W H a).length a [] _ ⟨hb, hb, fun _ _ => rfl⟩ rfl (by simp) (TabS.new W H a)
    have h4 := play_impl W H (freeL W H a).length a 40 [] hb rfl hF (by omega) (by simp; omega)
    exact ⟨playM W H (freeL W H a).length a, by rw [play_len _ a hb rfl]; omega, evB h1 (evT rfl (evB (free_spec W H a hb) (evB (table_spec _ hF) (by simpa using h3)))), evB h2 (evT rfl (evB (best_impl W H a hb hF) (evB (by simpa using h4) (evS _)))), fun _ => rfl⟩
  · exact ⟨[], by simp, evB h1 (evF c (evS _)), evB h2 (evF c (evS _)), fun z => absurd z c⟩
/-- An edge that is not drawn is drawn. -/
theorem add_free {W H : Int} {a : Nat} (h : isBoxB W H a = true) (e : Int) (he : e ∈ freeL W H a) : Ev (fun k => impl_AddEdge.f k W H a e) (W, H, ((put a e : Nat) : Int), taken W H (put a e) - taken W H a, 0) := by
  obtain ⟨h0, h1, hbit⟩ := (mem_free h e).1 he
  obtain ⟨w, hh, h3, f2', f3', _⟩ := box_facts h
  obtain ⟨f1, f2, f3, f4, f5, f6, f7, _⟩ := cnt_facts W H w.1 w.2 hh.1 hh.2
  have hw : wrap64 (cnt W H - 1) = cnt W H - 1 := wrap_in (by omega) (by omega)
  have hc := boxesCode W H a e (cnt W H)
  rw [h, if_pos rfl, hw, if_pos (by omega)] at hc
  have ei : impl_Boxes_edges.f W H (a : Int) = some (cnt W H) := by unfold impl_Boxes_edges.f; rw [f1]
  unfold impl_AddEdge.f
  rw [ei]
  simp only [Option.bind_some]
  refine evB hc (evT (by rfl) (evG (a := false) ?_ ?_))
  · unfold impl_Boxes_has.f
    rw [if_pos h0]
    have := dig_bit a e (small62 h3) h0 (by omega)
    unfold dig at this
    rw [this, hbit]
    rfl
  · refine evSucc (fun k => by rw [impl_AddEdge.j0]) ?_
    refine evF (by simp) (evT (by rfl) (evB (add_impl W H a e h h0 h1) (evE ?_ (evS _))))
    rw [addE_put h e h0 h1, gain_taken h e h0 h1]
theorem rounds_ok (W H score : Int) (m : Nat) : ∀ (a : Nat) (s t : Int), isBoxB W H a = true → (freeL W H a).length = m → (s = 1 ∨ s = -1) → -taken W H a ≤ t → t ≤ taken W H a → t + s * sc W H a = score → ∃ N, ∀ k, N ≤ k → roundsF k W H score (playM W H m a) (a : Int) s t := by
  induction m with
  | zero =>
    intro a s t h hm hs ht0 ht1 hsc
    have e0 : sc W H a = 0 := by rw [sc_eq h, List.eq_nil_of_length_eq_zero hm]; rfl
    rw [e0, Int.mul_zero, Int.add_zero] at hsc
    exact ⟨0, fun k _ => hsc⟩
  | succ m ih =>
    intro a s t h hm hs ht0 ht1 hsc
    obtain ⟨e, rest, hb, he, hbh⟩ := bestL_cons h (fun c => by rw [c] at hm; simp at hm)
    obtain ⟨h0, h1, _⟩ := (mem_free h e).1 he
    have hl := free_put_len h e he
    have hp := put_box h e h0 h1
    obtain ⟨N1, hN1⟩ := add_free h e he
    have r1 := taken_range h
    have r2 := taken_range hp
    have r3 := gain_nonneg h e h0 h1
    unfold bh at hbh
    generalize hn : taken W H (put a e) - taken W H a = n at hbh hN1
    obtain ⟨N2, hN2⟩ := ih (put a e) (sgn s n) (t + s * n) hp (by omega) (by unfold sgn; split <;> omega) (by rcases hs with rfl | rfl <;> omega) (by rcases hs with rfl | rfl <;> omega) (by
      unfold sgn
      by_cases c : n > 0
      · rw [if_pos c] at hbh
        rw [if_neg (by omega)]
        rcases hs with rfl | rfl <;> omega
      · rw [if_neg c] at hbh
        obtain rfl : n = 0 := by omega
        rw [if_pos rfl]
        rcases hs with rfl | rfl <;> omega)
    refine ⟨N1 + N2, fun k hk => ?_⟩
    simp only [playM, hb]
    exact ⟨_, n, hN1 k (by omega), hs, ⟨by omega, by omega⟩, ⟨by omega, by omega⟩, hN2 k (by omega)⟩
/-- Net scores lie within what is not taken. -/
theorem sc_open {W H : Int} (m : Nat) : ∀ a : Nat, isBoxB W H a = true → (freeL W H a).length < m → -(W * H - taken W H a) ≤ sc W H a ∧ sc W H a ≤ W * H - taken W H a := by
  induction m with
  | zero => intro a h hm; omega
  | succ m ih =>
    intro a h hm
    obtain ⟨w, hh, _⟩ := box_facts h
    have ht : taken W H a ≤ W * H := by
      have := filter_length_le_seg (fun i => drawnN W H a i == 4) 0 (W * H).toNat
      have f := (cnt_facts W H w.1 w.2 hh.1 hh.2).2.2.2.2.2.2.2.2.2
      unfold taken withL
      omega
    have hb : ∀ x ∈ freeL W H a, -(W * H - taken W H a) ≤ bh (sc W H) W H a x ∧ bh (sc W H) W H a x ≤ W * H - taken W H a := by
      intro x hx
      obtain ⟨h0, h1, _⟩ := (mem_free h x).1 hx
      have hl := free_put_len h x hx
      have hr := ih (put a x) (put_box h x h0 h1) (by omega)
      have hg := gain_nonneg h x h0 h1
      unfold bh
      split <;> omega
    rw [sc_eq h]
    cases hf : freeL W H a with
    | nil => simp only [best]; omega
    | cons x xs =>
      rw [hf] at hb
      exact fold_range _ _ _ xs (fun y hy => hb y (List.mem_cons_of_mem _ hy)) _ (hb x List.mem_cons_self)
end Go.Proofs.Ytelfllbjcpndfaa.B
