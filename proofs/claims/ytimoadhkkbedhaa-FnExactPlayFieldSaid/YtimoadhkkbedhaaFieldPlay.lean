/-
  The play on a field, plainly: the first best point, or the first point, one behind the other; program and reference come to it. Fields alone, as the facts ask.
-/
import Derived.Test.YtimoadhkkbedhaaFieldBest
import Derived.Test.YtimoadhkkbedhaaOutPlay
import Derived.Test.YtimoadhkkbedhaaQ22
namespace Go.Proofs.Ytimoadhkkbedhaa.B
open Go.RowKit Go.Proofs.Ytimoadhkkbedhaa.Q Go.Proofs.YtimoadhkkbedhaaW.PrintWords Go.Proofs.YtimoadhkkbedhaaW.PrintLast Go.Proofs.YtimoadhkkbedhaaW.PrintMore

/-- The play, at most d points more. -/
def playM (P L g : Int) : Nat → Nat → Nat → Int → List Int
  | 0, _, _, _ => []
  | d + 1, a, b, p => match bestL P L g a b p ++ ptsL P L a b g p with
    | [] => []
    | x :: _ => x :: playM P L g d (mvA p a x) (mvC p b x) (1 - p)
theorem playM_cons {P L g : Int} (d : Nat) {a b : Nat} {p x : Int} {q : List Int} (e : bestL P L g a b p ++ ptsL P L a b g p = x :: q) : playM P L g (d + 1) a b p = x :: playM P L g d (mvA p a x) (mvC p b x) (1 - p) := by
  simp only [playM]
  rw [e]
theorem playM_nil {P L g : Int} (d : Nat) {a b : Nat} {p : Int} (e : bestL P L g a b p ++ ptsL P L a b g p = []) : playM P L g (d + 1) a b p = [] := by
  simp only [playM]
  rw [e]
theorem playM_len (P L g : Int) (d : Nat) : ∀ (a b : Nat) (p : Int), (playM P L g d a b p).length ≤ d := by
  induction d with
  | zero => intro a b p; simp [playM]
  | succ d ih =>
    intro a b p
    simp only [playM]
    split
    · simp
    · rename_i x _ _
      have := ih (mvA p a x) (mvC p b x) (1 - p)
      simp
      omega
section
variable {P L g : Int} (hP : 1 ≤ P ∧ P ≤ 8)
include hP
/-- The head of both lists is a point that may be taken. -/
theorem head_free (a b : Nat) (p : Int) (h : Two P.toNat a b) (x : Int) (q : List Int) (e : bestL P L g a b p ++ ptsL P L a b g p = x :: q) : 0 ≤ x ∧ x < P ∧ x.toNat < P.toNat ∧ dg a b x.toNat = 0 := by
  have hm : x ∈ bestL P L g a b p ++ ptsL P L a b g p := by rw [e]; exact List.mem_cons_self
  rcases List.mem_append.1 hm with h1 | h1
  · exact ptsL_free P L g p a b hP h x (List.mem_filter.1 h1).1
  · exact ptsL_free P L g p a b hP h x h1
theorem play_impl (hL : (Lit.int .i64 L).wf = true) (m : Nat) : ∀ (a b : Nat) (p : Int) (d : Nat) (acc : List Int), (p = 0 ∨ p = 1) → Two P.toNat a b → fr a b P.toNat ≤ m → m < d → acc.length + m ≤ 20 → Ev (fun k => playL k g P L d a b p acc) (acc ++ playM P L g (m + 1) a b p) := by
  induction m with
  | zero =>
    intro a b p d acc hp h hm hd hacc
    obtain ⟨d, rfl⟩ : ∃ n, d = n + 1 := ⟨d - 1, by omega⟩
    have hb := bestL_len P L g a b p hP.2
    have hl := ptsL_len P L a b g p hP.2
    have he : bestL P L g a b p ++ ptsL P L a b g p = [] := by
      cases e : bestL P L g a b p ++ ptsL P L a b g p with
      | nil => rfl
      | cons x q =>
        exfalso
        obtain ⟨h0, h1, h2, h3⟩ := head_free hP a b p h x q e
        have := fr_pos P.toNat a b x.toNat h2 h3
        omega
    simp only [playL]
    refine evB (best_impl P L g hP hL a b p hp h) (evB (points_impl P L a b g p hP) (evT ⟨by omega, by omega, by omega⟩ (evT (by rw [he]; rfl) (evE ?_ (evS _)))))
    simp only [playM]
    rw [he]
    simp
  | succ m ih =>
    intro a b p d acc hp h hm hd hacc
    obtain ⟨d, rfl⟩ : ∃ n, d = n + 1 := ⟨d - 1, by omega⟩
    have hb := bestL_len P L g a b p hP.2
    have hl := ptsL_len P L a b g p hP.2
    have hs := h.small (by omega)
    simp only [playL]
    refine evB (best_impl P L g hP hL a b p hp h) (evB (points_impl P L a b g p hP) (evT ⟨by omega, by omega, by omega⟩ ?_))
    cases e : bestL P L g a b p ++ ptsL P L a b g p with
    | nil => exact evT rfl (evE (by rw [playM_nil (m + 1) e]; simp) (evS _))
    | cons x q =>
      obtain ⟨h0, h1, h2, h3⟩ := head_free hP a b p h x q e
      obtain ⟨m1, m2⟩ := h.move p x h2 h3
      have h5 := ih (mvA p a x) (mvC p b x) (1 - p) d (acc ++ [x]) (by omega) m1 (by omega) (by omega) (by simp; omega)
      refine evF (by simp) ?_
      rw [show rd (x :: q) 0 = x from rfl, coloured_impl P L a b p x h0, mvR_nat a p x hs.1 h0 (by omega), mvB_nat b p x hs.2 h0 (by omega), wrap_in (x := 1 - p) (by omega) (by omega)]
      exact evG rfl (evE (by rw [playM_cons (m + 1) e]; simp) h5)
theorem play_spec (m : Nat) : ∀ (a b : Nat) (p : Int) (acc T : List Int), (p = 0 ∨ p = 1) → Two P.toNat a b → fr a b P.toNat ≤ m → acc.length + m ≤ 20 → TabW P L g T → Ev (fun k => spec_PlayField.l0 k g p T acc P L a b) (acc ++ playM P L g (m + 1) a b p, 0) := by
  induction m with
  | zero =>
    intro a b p acc T hp h hm hacc hT
    have hs := h.small (by omega)
    have k62 : (2 : Nat) ^ 62 = 4611686018427387904 := by decide
    have he : bestL P L g a b p ++ ptsL P L a b g p = [] := by
      cases e : bestL P L g a b p ++ ptsL P L a b g p with
      | nil => rfl
      | cons x q =>
        exfalso
        obtain ⟨h0, h1, h2, h3⟩ := head_free hP a b p h x q e
        have := fr_pos P.toNat a b x.toNat h2 h3
        omega
    obtain ⟨e1, e2⟩ := List.append_eq_nil_iff.1 he
    obtain ⟨T', h3, h4⟩ := best_spec P L g hP a b p hp h T hT
    have hpt := points_spec P L a b g p hP (by omega) (by omega)
    refine evSucc (fun k => by rw [spec_PlayField.l0]) ?_
    rw [e1] at h3
    rw [e2] at hpt
    refine evB h3 (evT rfl (evB hpt (evT rfl (evE ?_ (evS _)))))
    simp only [playM]
    rw [he]
    simp
  | succ m ih =>
    intro a b p acc T hp h hm hacc hT
    have hs := h.small (by omega)
    have k62 : (2 : Nat) ^ 62 = 4611686018427387904 := by decide
    obtain ⟨T', h3, h4⟩ := best_spec P L g hP a b p hp h T hT
    have hpt := points_spec P L a b g p hP (by omega) (by omega)
    have hgo : ∀ (x : Int) (q : List Int), bestL P L g a b p ++ ptsL P L a b g p = x :: q → Ev (fun k => (spec_l05Move.f P L a b p x).bind fun bt => spec_PlayField.l0 k g (wrap64 (1 - p)) T' (acc ++ [x]) bt.1 bt.2.1 bt.2.2.1 bt.2.2.2) (acc ++ playM P L g (m + 1 + 1) a b p, 0) := by
      intro x q e
      obtain ⟨h0, h1, h2, h3⟩ := head_free hP a b p h x q e
      obtain ⟨m1, m2⟩ := h.move p x h2 h3
      have h5 := ih (mvA p a x) (mvC p b x) (1 - p) (acc ++ [x]) T' (by omega) m1 (by omega) (by simp; omega) h4
      rw [move_spec P L a b p x h0 (by omega), mvR_nat a p x hs.1 h0 (by omega), mvB_nat b p x hs.2 h0 (by omega), wrap_in (x := 1 - p) (by omega) (by omega)]
      refine evG rfl (evE ?_ h5)
      rw [playM_cons (m + 1) e]
      simp
    refine evSucc (fun k => by rw [spec_PlayField.l0]) ?_
    cases e1 : bestL P L g a b p with
    | nil =>
      rw [e1] at h3
      cases e2 : ptsL P L a b g p with
      | nil =>
        rw [e2] at hpt
        refine evB h3 (evT rfl (evB hpt (evT rfl (evE ?_ (evS _)))))
        rw [playM_nil (m + 1) (by rw [e1, e2]; rfl)]
        simp
      | cons x q =>
        have h6 := hgo x q (by rw [e1, e2]; rfl)
        rw [e2] at hpt
        exact evB h3 (evT rfl (evB hpt (evF (by simp; omega) (evT (by simp) (evT (by omega) h6)))))
    | cons x q =>
      have h6 := hgo x (q ++ ptsL P L a b g p) (by rw [e1]; rfl)
      rw [e1] at h3
      exact evB h3 (evF (by simp; omega) (evT (by simp) (evT (by omega) h6)))
end
end Go.Proofs.Ytimoadhkkbedhaa.B
