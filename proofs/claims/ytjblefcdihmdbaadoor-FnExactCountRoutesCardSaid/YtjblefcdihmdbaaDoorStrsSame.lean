/-
  The laws' own helpers for lists of texts: sizes, copies, equality. Lists of texts within the laws' bound.
-/
import Derived.Test.YtjblefcdihmdbaaDoorEvBase
import Derived.Test.YtjblefcdihmdbaaDoorQ1
namespace Go.Proofs.YtjblefcdihmdbaaDoor.B
open Go.RowKit Go.Proofs.YtjblefcdihmdbaaDoor.Q Go.Proofs.YtjblefcdihmdbaaDoorW.PrintWords Go.Proofs.YtjblefcdihmdbaaDoorW.PrintLast

/-- Few rows of few letters. -/
def Small (l : List ByteArray) : Prop := l.length ≤ 1048576 ∧ ∀ s ∈ l, s.size ≤ 1048576
theorem rd_mid (p : List ByteArray) (x : ByteArray) (q : List ByteArray) (i : Int) (hi : i = p.length) : rdOf ByteArray.empty (p ++ x :: q) i = x := by
  subst hi
  simp [rdOf]
theorem szStrs_l (l : List ByteArray) (q : List ByteArray) : ∀ (p : List ByteArray) (i left : Int), l = p ++ q → i = p.length → 0 ≤ left → left ≤ 1048576 → l.length ≤ 4000000000000000000 → (∀ s ∈ l, s.size ≤ 9223372036854775807) → (∀ s ∈ p, s.size ≤ 1048576) →
    ∃ z : Int, Ev (fun k => laws_szStringS.l0 k l left i) z ∧ (z < 0 ∨ (0 ≤ z ∧ ∀ s ∈ l, s.size ≤ 1048576)) := by
  induction q with
  | nil =>
    intro p i left hl hi h0 h1 hm hs hp
    refine ⟨left, ?_, .inr ⟨h0, by rw [hl, List.append_nil]; exact hp⟩⟩
    refine evSucc (fun k => by rw [laws_szStringS.l0]) ?_
    exact evF (by rw [hl]; simp; omega) (evS _)
  | cons x q ih =>
    intro p i left hl hi h0 h1 hm hs hp
    have hx : rdOf ByteArray.empty l i = x := by rw [hl]; exact rd_mid p x q i hi
    have hlt : i < (l.length : Int) := by rw [hl, hi]; simp; omega
    have hxs : x.size ≤ 9223372036854775807 := hs x (by rw [hl]; simp)
    have hsc : ∀ k, laws_szStringS.l0 (k + 1) l left i = if (left - (x.size : Int)) < 0 then some (-1) else laws_szStringS.l0 k l (left - (x.size : Int)) (i + 1) := fun k => by
      rw [laws_szStringS.l0, if_pos hlt, if_pos (by omega), hx, wrap_in (by omega) (by omega), wrap_in (x := i + 1) (by omega) (by omega)]
    by_cases c : left - (x.size : Int) < 0
    · exact ⟨-1, evSucc hsc (evT c (evS _)), .inl (by omega)⟩
    · obtain ⟨z, h2, h3⟩ := ih (p ++ [x]) (i + 1) (left - (x.size : Int)) (by rw [hl]; simp) (by simp; omega) (by omega) (by omega) hm hs (fun s hs => by
        rcases List.mem_append.1 hs with h | h
        · exact hp s h
        · have : s = x := by simpa using h
          subst this
          omega)
      exact ⟨z, evSucc hsc (evF c h2), h3⟩
theorem szStrs (l : List ByteArray) (hm : l.length ≤ maxLen) (hs : ∀ s ∈ l, s.size ≤ maxLen) : ∃ z : Int, Ev (fun k => laws_szStringS.f k l 1048576) z ∧ (z < 0 ∨ (0 ≤ z ∧ Small l)) := by
  have hmm : maxLen = 9223372036854775807 := by decide
  rw [hmm] at hm hs
  unfold laws_szStringS.f
  rw [wrap_in (x := 1048576 - (l.length : Int)) (by omega) (by omega)]
  by_cases c : 1048576 - (l.length : Int) < 0
  · exact ⟨-1, evT c (evS _), .inl (by omega)⟩
  · obtain ⟨z, h1, h2⟩ := szStrs_l l l [] 0 (1048576 - (l.length : Int)) rfl rfl (by omega) (by omega) (by omega) hs (fun s h => by cases h)
    exact ⟨z, evF c h1, h2.imp id (fun h => ⟨h.1, by omega, h.2⟩)⟩
theorem set_mid_str (p : List ByteArray) (x y : ByteArray) (q : List ByteArray) : (p ++ x :: q).set p.length y = p ++ y :: q := by simp
theorem toStrs_l (q : List ByteArray) : ∀ (p : List ByteArray) (i : Int), i = p.length → p.length + q.length ≤ 1048576 → Ev (fun k => laws_toStringS.l0 k (p ++ q) (p ++ List.replicate q.length (⟨#[]⟩ : ByteArray)) i) (p ++ q) := by
  induction q with
  | nil =>
    intro p i hi h
    refine evSucc (fun k => by rw [laws_toStringS.l0]) ?_
    exact evF (by simp; omega) (evE (by simp) (evS _))
  | cons x q ih =>
    intro p i hi h
    simp only [List.length_cons] at h
    refine evSucc (fun k => by rw [laws_toStringS.l0]) ?_
    refine evT (by simp only [List.length_append, List.length_cons]; omega) (evT (by omega) (evT (by simp only [List.length_append, List.length_cons, List.length_replicate]; omega) ?_))
    rw [rd_mid p x q i hi, wrap_in (x := i + 1) (by omega) (by omega)]
    have e : (p ++ List.replicate (x :: q).length (⟨#[]⟩ : ByteArray)).set i.toNat x = (p ++ [x]) ++ List.replicate q.length (⟨#[]⟩ : ByteArray) := by
      rw [show i.toNat = p.length by omega, List.length_cons, List.replicate_succ, set_mid_str]
      simp
    rw [e, show p ++ x :: q = (p ++ [x]) ++ q by simp]
    exact ih (p ++ [x]) (i + 1) (by simp; omega) (by simp; omega)
theorem toStrs (l : List ByteArray) (h : l.length ≤ 1048576) : Ev (fun k => laws_toStringS.f k l) l := by
  unfold laws_toStringS.f
  refine evT (by omega) (evT (by simp; omega) ?_)
  have := toStrs_l l [] 0 rfl (by simpa using h)
  simpa using this
theorem eqStrs_l (l : List ByteArray) (hl : l.length ≤ 1048576) (d : Nat) : ∀ i : Int, 0 ≤ i → i + d = l.length → Ev (fun k => laws_eqStringS.l0 k l l i) true := by
  induction d with
  | zero =>
    intro i h0 hd
    refine evSucc (fun k => by rw [laws_eqStringS.l0]) ?_
    exact evF (by omega) (evS _)
  | succ d ih =>
    intro i h0 hd
    refine evSucc (fun k => by rw [laws_eqStringS.l0]) ?_
    refine evT (by omega) (evT h0 (evT (by omega) (evT (by rfl) ?_)))
    rw [wrap_in (by omega) (by omega)]
    exact ih (i + 1) (by omega) (by omega)
theorem eqStrs (l : List ByteArray) (hl : l.length ≤ 1048576) : Ev (fun k => laws_eqStringS.f k l l) true := by
  unfold laws_eqStringS.f
  exact evT (by rfl) (eqStrs_l l hl l.length 0 (by omega) (by omega))
end Go.Proofs.YtjblefcdihmdbaaDoor.B
