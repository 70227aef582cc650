/-
  The least and the greatest number of moves, plainly; the program's store-free recursion comes to it, and the reference's table. Fields alone, as the facts ask.
-/
import Derived.Test.YtimoadhkkbedhaaFieldTable
import Derived.Test.YtimoadhkkbedhaaLeftCode
import Derived.Test.YtimoadhkkbedhaaQ17
namespace Go.Proofs.Ytimoadhkkbedhaa.B
open Go.RowKit Go.Proofs.Ytimoadhkkbedhaa.Q Go.Proofs.YtimoadhkkbedhaaW.PrintWords Go.Proofs.YtimoadhkkbedhaaW.PrintLast Go.Proofs.YtimoadhkkbedhaaW.PrintMore

def leftP (f : Int → Int × Int) : List Int → Bool → Int → Int → Int × Int
  | [], _, lo, hi => (lo, hi)
  | x :: xs, first, lo, hi => leftP f xs false (if first = true then (f x).1 + 1 else if (f x).1 + 1 < lo then (f x).1 + 1 else lo) (mx hi ((f x).2 + 1))
theorem leftP_congr {f g : Int → Int × Int} (l : List Int) : (∀ x ∈ l, f x = g x) → ∀ (b : Bool) (lo hi : Int), leftP f l b lo hi = leftP g l b lo hi := by
  induction l with
  | nil => intro h b lo hi; rfl
  | cons x l ih =>
    intro h b lo hi
    simp only [leftP]
    rw [h x List.mem_cons_self]
    exact ih (fun y hy => h y (List.mem_cons_of_mem _ hy)) _ _ _
theorem leftP_range {f : Int → Int × Int} (B : Int) (l : List Int) : (∀ x ∈ l, (0 ≤ (f x).1 ∧ (f x).1 + 1 ≤ B) ∧ (0 ≤ (f x).2 ∧ (f x).2 + 1 ≤ B)) → ∀ (b : Bool) (lo hi : Int), 0 ≤ lo ∧ lo ≤ B → 0 ≤ hi ∧ hi ≤ B → (0 ≤ (leftP f l b lo hi).1 ∧ (leftP f l b lo hi).1 ≤ B) ∧ (0 ≤ (leftP f l b lo hi).2 ∧ (leftP f l b lo hi).2 ≤ B) := by
  induction l with
  | nil => intro h b lo hi h1 h2; exact ⟨h1, h2⟩
  | cons x l ih =>
    intro h b lo hi h1 h2
    have hx := h x List.mem_cons_self
    simp only [leftP]
    refine ih (fun y hy => h y (List.mem_cons_of_mem _ hy)) _ _ _ ?_ ?_
    · split
      · omega
      · split <;> omega
    · unfold mx
      split <;> omega
def lfN (P L g : Int) : Nat → Nat → Nat → Int → Int × Int
  | 0, _, _, _ => (0, 0)
  | d + 1, a, b, p => leftP (fun i => lfN P L g d (mvA p a i) (mvC p b i) (1 - p)) (ptsL P L a b g p) true 0 0
/-- The least and the greatest number of moves. -/
def lf (P L g : Int) (a b : Nat) (p : Int) : Int × Int := lfN P L g (fr a b P.toNat + 1) a b p
section
variable {P L g : Int} (hP : 1 ≤ P ∧ P ≤ 8)
include hP
theorem lf_eq (a b : Nat) (p : Int) (h : Two P.toNat a b) : lf P L g a b p = leftP (fun i => lf P L g (mvA p a i) (mvC p b i) (1 - p)) (ptsL P L a b g p) true 0 0 := by
  unfold lf
  rw [lfN]
  refine leftP_congr _ (fun i hi => ?_) _ _ _
  obtain ⟨_, _, h2, h3⟩ := ptsL_free P L g p a b hP h i hi
  rw [(h.move p i h2 h3).2]
theorem lf_range (m : Nat) : ∀ (a b : Nat) (p : Int), Two P.toNat a b → fr a b P.toNat < m → (0 ≤ (lf P L g a b p).1 ∧ (lf P L g a b p).1 ≤ fr a b P.toNat) ∧ (0 ≤ (lf P L g a b p).2 ∧ (lf P L g a b p).2 ≤ fr a b P.toNat) := by
  induction m with
  | zero => intro a b p h hm; omega
  | succ m ih =>
    intro a b p h hm
    rw [lf_eq hP a b p h]
    refine leftP_range (fr a b P.toNat : Int) _ (fun i hi => ?_) _ _ _ (by omega) (by omega)
    obtain ⟨_, _, h2, h3⟩ := ptsL_free P L g p a b hP h i hi
    obtain ⟨m1, m2⟩ := h.move p i h2 h3
    have := ih (mvA p a i) (mvC p b i) (1 - p) m1 (by omega)
    omega
theorem lf_small (a b : Nat) (p : Int) (h : Two P.toNat a b) : (0 ≤ (lf P L g a b p).1 ∧ (lf P L g a b p).1 ≤ 8) ∧ (0 ≤ (lf P L g a b p).2 ∧ (lf P L g a b p).2 ≤ 8) := by
  have h1 := lf_range (L := L) (g := g) hP (fr a b P.toNat + 1) a b p h (by omega)
  have h2 := fr_le a b P.toNat
  omega
omit hP in
theorem leftL_ev (f : Nat → Int → Option (Int × Int)) (q : Int → Int × Int) (l : List Int) : (∀ x ∈ l, Ev (fun k => f k x) (q x)) → (∀ x ∈ l, (0 ≤ (q x).1 ∧ (q x).1 ≤ 8) ∧ (0 ≤ (q x).2 ∧ (q x).2 ≤ 8)) → ∀ (b : Bool) (lo hi : Int), Ev (fun k => leftL (f k) l b lo hi) (leftP q l b lo hi) := by
  induction l with
  | nil => intro h hr b lo hi; exact evS _
  | cons x l ih =>
    intro h hr b lo hi
    have hx := hr x List.mem_cons_self
    simp only [leftL, leftP]
    refine evB (h x List.mem_cons_self) ?_
    rw [wrap_in (x := (q x).1 + 1) (by omega) (by omega), wrap_in (x := (q x).2 + 1) (by omega) (by omega)]
    exact ih (fun y hy => h y (List.mem_cons_of_mem _ hy)) (fun y hy => hr y (List.mem_cons_of_mem _ hy)) _ _ _
theorem left_impl (hL : (Lit.int .i64 L).wf = true) (d : Nat) : ∀ (a b : Nat) (p : Int), (p = 0 ∨ p = 1) → Two P.toNat a b → fr a b P.toNat < d → Ev (fun k => leftF k g P L d a b p) (lf P L g a b p) := by
  induction d with
  | zero => intro a b p hp h hd; omega
  | succ d ih =>
    intro a b p hp h hd
    have k62 : (2 : Nat) ^ 62 = 4611686018427387904 := by decide
    have hs := h.small (by omega)
    rw [lf_eq hP a b p h]
    simp only [leftF]
    have hp8 := Nat.pow_le_pow_right (show 0 < 2 by decide) (show P.toNat ≤ 8 by omega)
    have h1 := h.1
    have h2 := h.2.1
    refine evT ⟨wf_small P (by omega) (by omega), hL, by omega, by omega, by omega⟩ ?_
    refine evB (points_impl P L a b g p hP) (evT (by have := ptsL_len P L a b g p hP.2; omega) ?_)
    refine leftL_ev _ _ _ (fun i hi => ?_) (fun i hi => ?_) _ _ _
    · obtain ⟨h0, h1, h2, h3⟩ := ptsL_free P L g p a b hP h i hi
      obtain ⟨m1, m2⟩ := h.move p i h2 h3
      rw [coloured_impl P L a b p i h0, mvR_nat a p i hs.1 h0 (by omega), mvB_nat b p i hs.2 h0 (by omega), wrap_in (x := 1 - p) (by omega) (by omega)]
      exact evG rfl (ih (mvA p a i) (mvC p b i) (1 - p) (by omega) m1 (by omega))
    · obtain ⟨h0, h1, h2, h3⟩ := ptsL_free P L g p a b hP h i hi
      obtain ⟨m1, m2⟩ := h.move p i h2 h3
      exact lf_small hP _ _ _ m1
end
/-- A state's number in the reference's table. -/
def valL (P L g : Int) (s : Nat × Nat × Int) : Int := (lf P L g s.1 s.2.1 s.2.2).2 * 9 + (lf P L g s.1 s.2.1 s.2.2).1 + 1
def TabL (P L g : Int) (t : List Int) : Prop := Tab (stOk P) (stPl P) (valL P L g) (2 * 3 ^ P.toNat) t
theorem TabL.new (P L g : Int) : TabL P L g (List.replicate (2 * 3 ^ P.toNat) 0) := Tab.new (fun s h => stPl_lt P s h)
theorem TabL.put {P L g : Int} {t : List Int} (h : TabL P L g t) (a b : Nat) (p : Int) (hs : stOk P (a, b, p)) (i : Int) (hi : i = (pl3 a b P.toNat : Int) * 2 + p) (v : Int) (hv : v = valL P L g (a, b, p)) : TabL P L g (t.set i.toNat v) := by
  have hp := hs.2
  simp only at hp
  have e : i.toNat = stPl P (a, b, p) := by unfold stPl; simp only; omega
  rw [e, hv]
  exact Tab.set h (stPl_inj P) _ hs
theorem TabL.at {P L g : Int} {t : List Int} (h : TabL P L g t) (a b : Nat) (p : Int) (hs : stOk P (a, b, p)) : (pl3 a b P.toNat : Int) * 2 + p < t.length ∧ (rd t ((pl3 a b P.toNat : Int) * 2 + p) = 0 ∨ rd t ((pl3 a b P.toNat : Int) * 2 + p) = valL P L g (a, b, p)) := by
  have hp := hs.2
  simp only at hp
  have e : ((pl3 a b P.toNat : Int) * 2 + p).toNat = stPl P (a, b, p) := by unfold stPl; simp only; omega
  obtain ⟨h1, h2⟩ := h.2 _ hs
  refine ⟨by rw [h.1]; omega, ?_⟩
  unfold rd
  rw [e]
  exact h2
theorem i8_at (x : Int) (h0 : 0 ≤ x) (h1 : x ≤ 100) : IntKind.i8.wrap x = x := by
  simp [IntKind.wrap, IntKind.bits, IntKind.signed]
  omega
section
variable {P L g : Int} (hP : 1 ≤ P ∧ P ≤ 8)
include hP
theorem left_l (a b : Nat) (p : Int) (hp : p = 0 ∨ p = 1) (h : Two P.toNat a b)
    (ih : ∀ i, i ∈ ptsL P L a b g p → ∀ T, TabL P L g T → ∃ T', Ev (fun k => spec_l05Left.f k P L (mvA p a i) (mvC p b i) g (1 - p) T) ((lf P L g (mvA p a i) (mvC p b i) (1 - p)).1, (lf P L g (mvA p a i) (mvC p b i) (1 - p)).2, T') ∧ TabL P L g T')
    (rest : List Int) : ∀ (j : Nat) (T : List Int) (lo hi : Int), (ptsL P L a b g p).drop j = rest → TabL P L g T → leftP (fun i => lf P L g (mvA p a i) (mvC p b i) (1 - p)) rest (decide (j = 0)) lo hi = lf P L g a b p →
      ∃ T', Ev (fun k => spec_l05Left.l0 k g p T ((pl3 a b P.toNat : Int) * 2 + p) (ptsL P L a b g p) lo hi j P L a b) ((lf P L g a b p).1, (lf P L g a b p).2, T') ∧ TabL P L g T' := by
  have hl := ptsL_len P L a b g p hP.2
  have hs := h.small (by omega)
  have hr := lf_small (L := L) (g := g) hP a b p h
  induction rest with
  | nil =>
    intro j T lo hi hd hT hv
    obtain ⟨t1, _⟩ := hT.at a b p ⟨h, hp⟩
    have hj := List.drop_eq_nil_iff.1 hd
    simp only [leftP] at hv
    have hput := hT.put a b p ⟨h, hp⟩ _ rfl (valL P L g (a, b, p)) rfl
    unfold valL at hput
    rw [← hv] at hr hput ⊢
    simp only at hr hput ⊢
    refine ⟨_, ?_, hput⟩
    refine evSucc (fun k => by rw [spec_l05Left.l0]) ?_
    refine evF (by omega) (evT (by omega) (evT t1 ?_))
    rw [wrap_in (x := hi * 9) (by omega) (by omega), wrap_in (x := hi * 9 + lo) (by omega) (by omega), wrap_in (x := hi * 9 + lo + 1) (by omega) (by omega), i8_at _ (by omega) (by omega)]
    exact evS _
  | cons x rest ihr =>
    intro j T lo hi hd hT hv
    obtain ⟨hj, hx, hd2, hmem⟩ := drop_cons hd
    obtain ⟨i0, i1, i2, i3⟩ := ptsL_free P L g p a b hP h x hmem
    obtain ⟨m1, m2⟩ := h.move p x i2 i3
    have hrx := lf_small (L := L) (g := g) hP (mvA p a x) (mvC p b x) (1 - p) m1
    obtain ⟨T1, h1, h2⟩ := ih x hmem T hT
    simp only [leftP] at hv
    generalize lf P L g (mvA p a x) (mvC p b x) (1 - p) = v at h1 hrx hv
    have hgo : ∀ lo2 : Int, lo2 = (if decide (j = 0) = true then v.1 + 1 else if v.1 + 1 < lo then v.1 + 1 else lo) → ∃ T', Ev (fun k => spec_l05Left.l0 k g p T1 ((pl3 a b P.toNat : Int) * 2 + p) (ptsL P L a b g p) lo2 (mx hi (v.2 + 1)) ((j : Int) + 1) P L a b) ((lf P L g a b p).1, (lf P L g a b p).2, T') ∧ TabL P L g T' := fun lo2 e => by
      have := ihr (j + 1) T1 lo2 (mx hi (v.2 + 1)) hd2 h2 (by rw [e]; simpa using hv)
      simpa using this
    clear hv ihr
    generalize lf P L g a b p = u at hgo ⊢
    by_cases hj0 : j = 0
    · obtain ⟨T', h3, h4⟩ := hgo (v.1 + 1) (by rw [if_pos (decide_eq_true hj0)])
      refine ⟨T', ?_, h4⟩
      refine evSucc (fun k => by rw [spec_l05Left.l0]) ?_
      refine evT (by omega) (evT (by omega) ?_)
      rw [hx, move_spec P L a b p x i0 (by omega), mvR_nat a p x hs.1 i0 (by omega), mvB_nat b p x hs.2 i0 (by omega), wrap_in (x := 1 - p) (by omega) (by omega), wrap_in (x := (j : Int) + 1) (by omega) (by omega)]
      refine evG rfl (evB h1 ?_)
      simp only
      rw [wrap_in (x := v.1 + 1) (by omega) (by omega), wrap_in (x := v.2 + 1) (by omega) (by omega)]
      exact evT (by omega) h3
    · by_cases hlt : v.1 + 1 < lo
      · obtain ⟨T', h3, h4⟩ := hgo (v.1 + 1) (by rw [if_neg (by simpa using hj0), if_pos hlt])
        refine ⟨T', ?_, h4⟩
        refine evSucc (fun k => by rw [spec_l05Left.l0]) ?_
        refine evT (by omega) (evT (by omega) ?_)
        rw [hx, move_spec P L a b p x i0 (by omega), mvR_nat a p x hs.1 i0 (by omega), mvB_nat b p x hs.2 i0 (by omega), wrap_in (x := 1 - p) (by omega) (by omega), wrap_in (x := (j : Int) + 1) (by omega) (by omega)]
        refine evG rfl (evB h1 ?_)
        simp only
        rw [wrap_in (x := v.1 + 1) (by omega) (by omega), wrap_in (x := v.2 + 1) (by omega) (by omega)]
        exact evF (by omega) (evT hlt h3)
      · obtain ⟨T', h3, h4⟩ := hgo lo (by rw [if_neg (by simpa using hj0), if_neg hlt])
        refine ⟨T', ?_, h4⟩
        refine evSucc (fun k => by rw [spec_l05Left.l0]) ?_
        refine evT (by omega) (evT (by omega) ?_)
        rw [hx, move_spec P L a b p x i0 (by omega), mvR_nat a p x hs.1 i0 (by omega), mvB_nat b p x hs.2 i0 (by omega), wrap_in (x := 1 - p) (by omega) (by omega), wrap_in (x := (j : Int) + 1) (by omega) (by omega)]
        refine evG rfl (evB h1 ?_)
        simp only
        rw [wrap_in (x := v.1 + 1) (by omega) (by omega), wrap_in (x := v.2 + 1) (by omega) (by omega)]
        exact evF (by omega) (evF hlt h3)
theorem left_spec (m : Nat) : ∀ (a b : Nat) (p : Int) (T : List Int), (p = 0 ∨ p = 1) → Two P.toNat a b → fr a b P.toNat < m → TabL P L g T →
    ∃ T', Ev (fun k => spec_l05Left.f k P L a b g p T) ((lf P L g a b p).1, (lf P L g a b p).2, T') ∧ TabL P L g T' := by
  induction m with
  | zero => intro a b p T hp h hm; omega
  | succ m ihm =>
    intro a b p T hp h hm hT
    have hs := h.small (by omega)
    have k62 : (2 : Nat) ^ 62 = 4611686018427387904 := by decide
    obtain ⟨h1, h2⟩ := hT.at a b p ⟨h, hp⟩
    have hpl := place_spec P L p a b hP hp h
    have hr := lf_small (L := L) (g := g) hP a b p h
    by_cases hk : rd T ((pl3 a b P.toNat : Int) * 2 + p) > 0
    · refine ⟨T, ?_, hT⟩
      have hv : rd T ((pl3 a b P.toNat : Int) * 2 + p) = valL P L g (a, b, p) := by
        rcases h2 with h2 | h2
        · exact absurd h2 (by omega)
        · exact h2
      unfold valL at hv
      simp only at hv
      refine evSucc (fun k => by rw [spec_l05Left.f]) ?_
      refine evB hpl (evT (by omega) (evT h1 (evT hk (evE ?_ (evS _)))))
      rw [hv]
      generalize (lf P L g a b p).1 = lo at hr ⊢
      generalize (lf P L g a b p).2 = hi at hr ⊢
      rw [wrap_in (x := hi * 9 + lo + 1) (by omega) (by omega), show hi * 9 + lo + 1 - 1 = hi * 9 + lo by omega, wrap_in (x := hi * 9 + lo) (by omega) (by omega), Int.tmod_eq_emod_of_nonneg (by omega), Int.tdiv_eq_ediv_of_nonneg (by omega), wrap_in (by omega) (by omega)]
      rw [show (hi * 9 + lo) % 9 = lo by omega, show (hi * 9 + lo) / 9 = hi by omega]
    · obtain ⟨T', h3, h4⟩ := left_l hP a b p hp h (fun i hi T hT => by
        obtain ⟨i0, i1, i2, i3⟩ := ptsL_free P L g p a b hP h i hi
        obtain ⟨m1, m2⟩ := h.move p i i2 i3
        exact ihm _ _ _ T (by omega) m1 (by omega) hT) (ptsL P L a b g p) 0 T 0 0 rfl hT (by rw [lf_eq hP a b p h]; rfl)
      refine ⟨T', ?_, h4⟩
      refine evSucc (fun k => by rw [spec_l05Left.f]) ?_
      exact evB hpl (evT (by omega) (evT h1 (evF hk (evB (points_spec P L a b g p hP (by omega) (by omega)) h3))))
end
end Go.Proofs.Ytimoadhkkbedhaa.B
