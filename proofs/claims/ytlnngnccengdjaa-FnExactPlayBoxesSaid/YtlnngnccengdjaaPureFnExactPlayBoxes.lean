/-
  The pure statement of the law FnExactPlayBoxes: program and reference tell the same play, and the marks hold, whatever the argument is.
-/
import Derived.Test.YtlnngnccengdjaaQ30
import Derived.Test.YtlnngnccengdjaaBoxTable
namespace Go.Proofs.Ytlnngnccengdjaa.Pure
open Go.RowKit Go.Proofs.Ytlnngnccengdjaa.Q Go.Proofs.YtlnngnccengdjaaW.PrintWords Go.Proofs.YtlnngnccengdjaaW.PrintLast Go.Proofs.Ytlnngnccengdjaa.B

theorem fold_at (g : Int → Int) (l : List Int) : ∀ b : Int, l.foldl (fun b e => mx b (g e)) b = b ∨ ∃ x ∈ l, l.foldl (fun b e => mx b (g e)) b = g x := by
  induction l with
  | nil => intro b; exact .inl rfl
  | cons y l ih =>
    intro b
    simp only [List.foldl_cons]
    rcases ih (mx b (g y)) with h | ⟨x, hx, h⟩
    · rw [h]
      unfold mx
      split
      · exact .inr ⟨y, List.mem_cons_self, rfl⟩
      · exact .inl rfl
    · exact .inr ⟨x, List.mem_cons_of_mem _ hx, h⟩
theorem best_at (g : Int → Int) (l : List Int) (hl : l ≠ []) : ∃ x ∈ l, best g l = g x := by
  cases l with
  | nil => exact absurd rfl hl
  | cons y l =>
    rcases fold_at g l (g y) with h | ⟨x, hx, h⟩
    · exact ⟨y, List.mem_cons_self, h⟩
    · exact ⟨x, List.mem_cons_of_mem _ hx, h⟩
theorem bestL_cons {W H : Int} {a : Nat} (h : isBoxB W H a = true) (hf : freeL W H a ≠ []) : ∃ e rest, bestL W H a = e :: rest ∧ e ∈ freeL W H a := by
  obtain ⟨x, hx, he⟩ := best_at (bh (sc W H) W H a) _ hf
  rw [← sc_eq h] at he
  have hm : x ∈ bestL W H a := List.mem_filter.2 ⟨hx, by simp [he]⟩
  cases hb : bestL W H a with
  | nil => rw [hb] at hm; cases hm
  | cons e rest => exact ⟨e, rest, rfl, (List.mem_filter.1 (show e ∈ bestL W H a by rw [hb]; exact List.mem_cons_self)).1⟩
def playM (W H : Int) : Nat → Nat → List Int
  | 0, _ => []
  | d + 1, a => match bestL W H a with
    | [] => []
    | e :: _ => e :: playM W H d (put a e)
theorem playM_len (W H : Int) (d : Nat) : ∀ a, (playM W H d a).length ≤ d := by
  induction d with
  | zero => intro a; simp [playM]
  | succ d ih =>
    intro a
    simp only [playM]
    split
    · simp
    · rename_i e _ _
      have := ih (put a e)
      simp
      omega
theorem play_impl (W H : Int) (m : Nat) : ∀ (a d : Nat) (acc : List Int), isBoxB W H a = true → (freeL W H a).length = m → m ≤ 12 → m < d → acc.length + m ≤ 24 → Ev (fun k => playL k W H d a (bestL W H a) acc) (acc ++ playM W H m a) := by
  induction m with
  | zero =>
    intro a d acc h hm _ hd hacc
    obtain ⟨d, rfl⟩ : ∃ n, d = n + 1 := ⟨d - 1, by omega⟩
    have hb : bestL W H a = [] := by unfold bestL; rw [List.eq_nil_of_length_eq_zero hm]; rfl
    simp only [playL]
    rw [hb]
    exact evF (by simp) (evE (by simp [playM]) (evS _))
  | succ m ih =>
    intro a d acc h hm h12 hd hacc
    obtain ⟨d, rfl⟩ : ∃ n, d = n + 1 := ⟨d - 1, by omega⟩
    obtain ⟨e, rest, hb, he⟩ := bestL_cons h (fun c => by rw [c] at hm; simp at hm)
    obtain ⟨h0, h1, _⟩ := (mem_free h e).1 he
    have hl := free_put_len h e he
    have hp := put_box h e h0 h1
    simp only [playL, playM]
    rw [hb]
    have hrd : rd (e :: rest) 0 = e := rfl
    rw [hrd]
    refine evT (by simp) (evT (by omega) (evB (add_impl W H a e h h0 h1) ?_))
    simp only
    rw [addE_put h e h0 h1]
    refine evB (best_impl W H (put a e) hp (by omega)) (evE ?_ (ih (put a e) d (acc ++ [e]) hp (by omega) (by omega) (by omega) (by simp; omega)))
    simp
theorem play_spec (W H : Int) (o : Nat) (hF : (freeL W H o).length ≤ 12) (m : Nat) : ∀ (a : Nat) (acc T : List Int), okT W H o a → (freeL W H a).length = m → acc.length + m = (freeL W H o).length → TabS W H o T →
    Ev (fun k => spec_PlayBoxes.l0 k (freeL W H o) acc T W H a) (acc ++ playM W H m a, 0) := by
  induction m with
  | zero =>
    intro a acc T ha hm hacc hT
    refine evSucc (fun k => by rw [spec_PlayBoxes.l0]) ?_
    exact evF (by omega) (evE (by simp [playM]) (evS _))
  | succ m ih =>
    intro a acc T ha hm hacc hT
    obtain ⟨e, rest, hb, he⟩ := bestL_cons ha.1 (fun c => by rw [c] at hm; simp at hm)
    obtain ⟨h0, h1, _⟩ := (mem_free ha.1 e).1 he
    have hl := free_put_len ha.1 e he
    obtain ⟨T', h3, h4⟩ := best_spec W H o hF a ha T hT
    have h5 := ih (put a e) (acc ++ [e]) T' (okT_put ha e he) (by omega) (by simp; omega) h4
    refine evSucc (fun k => by rw [spec_PlayBoxes.l0]) ?_
    rw [hb] at h3
    have hrd : rd (e :: rest) 0 = e := rfl
    refine evT (by omega) (evB h3 (evT (by simp) (evT (by omega) ?_)))
    rw [hrd]
    refine evB (move_spec W H a e ha.1 h0 h1) ?_
    simp only
    rw [addE_put ha.1 e h0 h1]
    refine evE ?_ h5
    simp only [playM]
    rw [hb]
    simp
theorem play_both (W H E : Int) : ∃ (l : List Int) (c : Int), l.length ≤ 24 ∧ Ev (fun k => spec_PlayBoxes.f k W H E) (l, c) ∧ Ev (fun k => impl_PlayBoxes.f k W H E) (l, c) := by
  unfold spec_PlayBoxes.f impl_PlayBoxes.f
  have h1 := given_spec W H E
  have h2 := code_impl W H E
  by_cases c : codeN W H E = 0
  · obtain ⟨hb, hF⟩ := codeN_zero W H E c
    rw [c] at h1 h2
    obtain ⟨_, _, h0, _⟩ := (isBoxB_iff W H E).1 hb
    obtain ⟨a, rfl⟩ := Int.eq_ofNat_of_zero_le h0
    have h3 := play_spec W H a hF (freeL W H a).length a [] _ ⟨hb, hb, fun _ _ => rfl⟩ rfl (by simp) (TabS.new W H a)
    have h4 := play_impl W H (freeL W H a).length a 40 [] hb rfl hF (by omega) (by simp; omega)
    refine ⟨playM W H (freeL W H a).length a, 0, Nat.le_trans (playM_len _ _ _ _) (by omega), evB h1 (evT rfl (evB (free_spec W H a hb) (evB (table_spec _ hF) (by simpa using h3)))), evB h2 (evT rfl (evB (best_impl W H a hb hF) (evB (by simpa using h4) (evS _))))⟩
  · exact ⟨[], codeN W H E, by simp, evB h1 (evF c (evS _)), evB h2 (evF c (evS _))⟩
theorem FnExactPlayBoxes (W H E : Int) (_ : (Lit.int .i64 W).wf = true) (_ : (Lit.int .i64 H).wf = true) (_ : (Lit.int .i64 E).wf = true) : Ev (fun k => laws_FnExactPlayBoxes.f k W H E) true := by
  unfold laws_FnExactPlayBoxes.f
  obtain ⟨l, c, hl, hs, hi⟩ := play_both W H E
  refine evG (by unfold laws_toBoxes.f; rfl) (evB hs (evG (by unfold laws_toBoxes.f; rfl) (evB hi (evB (eqInts l (by omega)) (evT (by rfl) ?_)))))
  refine evSucc (fun k => by rw [laws_FnExactPlayBoxes.j0]) ?_
  refine evF (by simp) (evB (markInts l 1 (by omega) (by omega)) (evB (heldInts l.length 1 (by omega) (by omega)) (evF (by omega) (evT (by rfl) ?_))))
  refine evG (by unfold laws_toBoxes.f; rfl) (evB hi (evB (eqInts l (by omega)) (evT (by rfl) ?_)))
  refine evSucc (fun k => by rw [laws_FnExactPlayBoxes.j1]) ?_
  exact evF (by simp) (evB (heldInts l.length 1 (by omega) (by omega)) (evF (by omega) (evT (by rfl) (evS _))))
end Go.Proofs.Ytlnngnccengdjaa.Pure
