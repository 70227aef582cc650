/-
  The reference's table of outcomes: places, the table's making, and who wins with it. Fields alone, as the facts ask.
-/
import Derived.Test.YtimoadhkkbedhaaFieldWins
import Derived.Test.YtimoadhkkbedhaaQ9
import Derived.Test.YtimoadhkkbedhaaQ8
namespace Go.Proofs.Ytimoadhkkbedhaa.B
open Go.RowKit Go.Proofs.Ytimoadhkkbedhaa.Q Go.Proofs.YtimoadhkkbedhaaW.PrintWords Go.Proofs.YtimoadhkkbedhaaW.PrintLast Go.Proofs.YtimoadhkkbedhaaW.PrintMore

theorem pow3_le (n : Nat) (h : n ≤ 8) : 3 ^ n ≤ 6561 := Nat.pow_le_pow_right (by decide) h
theorem bits_dg (a b : Nat) (i : Int) (ha : a < 2 ^ 62) (hb : b < 2 ^ 62) (h0 : 0 ≤ i) (h1 : i ≤ 60) (x : Int) (hx : 0 ≤ x ∧ x ≤ 1000000) :
    wrap64 ((wrap64 ((wrap64 (x * 3)) + (Go.bits .and .i64 (shr .i64 (a : Int) i) 1))) + (wrap64 (2 * (Go.bits .and .i64 (shr .i64 (b : Int) i) 1)))) = x * 3 + (dg a b i.toNat : Int) := by
  rw [dig_bit a i ha h0 h1, dig_bit b i hb h0 h1]
  unfold dg
  cases a.testBit i.toNat <;> cases b.testBit i.toNat <;> (unfold wrap64; simp; omega)
theorem place_l (P L p : Int) (a b : Nat) (hP : 1 ≤ P ∧ P ≤ 8) (hp : p = 0 ∨ p = 1) (h : Two P.toNat a b) (d : Nat) : ∀ i : Int, 0 ≤ i → i + d = P →
    Ev (fun k => spec_l05Place.l0 k p (pl3 a b i.toNat : Int) i P L a b) ((pl3 a b P.toNat : Int) * 2 + p) := by
  have hs := h.small (by omega)
  have hq : ∀ n, n ≤ 8 → pl3 a b n < 6561 := fun n hn => Nat.lt_of_lt_of_le (pl3_lt a b h.2.2 n) (pow3_le n hn)
  induction d with
  | zero =>
    intro i h0 h1
    have := hq i.toNat (by omega)
    refine evSucc (fun k => by rw [spec_l05Place.l0]) ?_
    refine evF (by omega) ?_
    obtain rfl : i = P := by omega
    rw [wrap_in (x := (pl3 a b i.toNat : Int) * 2) (by omega) (by omega), wrap_in (by omega) (by omega)]
    exact evS _
  | succ d ih =>
    intro i h0 h1
    have := hq i.toNat (by omega)
    refine evSucc (fun k => by rw [spec_l05Place.l0]) ?_
    rw [u64_at i h0 (by omega), bits_dg a b i hs.1 hs.2 h0 (by omega) _ (by omega), wrap_in (x := i + 1) (by omega) (by omega)]
    refine evT (by omega) (evT h0 ?_)
    have e : (pl3 a b i.toNat : Int) * 3 + (dg a b i.toNat : Int) = ((pl3 a b (i + 1).toNat : Nat) : Int) := by
      rw [show (i + 1).toNat = i.toNat + 1 by omega, show pl3 a b (i.toNat + 1) = pl3 a b i.toNat * 3 + dg a b i.toNat from rfl]
      omega
    rw [e]
    exact ih (i + 1) (by omega) (by omega)
theorem place_spec (P L p : Int) (a b : Nat) (hP : 1 ≤ P ∧ P ≤ 8) (hp : p = 0 ∨ p = 1) (h : Two P.toNat a b) : Ev (fun k => spec_l05Place.f k P L a b p) ((pl3 a b P.toNat : Int) * 2 + p) := by
  unfold spec_l05Place.f
  exact place_l P L p a b hP hp h P.toNat 0 (by omega) (by omega)
theorem table_l (P L R B : Int) (hP : 1 ≤ P ∧ P ≤ 8) (d : Nat) : ∀ i : Int, 0 ≤ i → i + d = P → Ev (fun k => spec_l05Table.l0 k ((2 * 3 ^ i.toNat : Nat) : Int) i P L R B) (List.replicate (2 * 3 ^ P.toNat) 0) := by
  induction d with
  | zero =>
    intro i h0 h1
    obtain rfl : i = P := by omega
    have := pow3_le i.toNat (by omega)
    refine evSucc (fun k => by rw [spec_l05Table.l0]) ?_
    refine evF (by omega) (evT (by omega) (evT (by rw [Int.toNat_natCast]; omega) ?_))
    rw [Int.toNat_natCast]
    exact evS _
  | succ d ih =>
    intro i h0 h1
    have := pow3_le i.toNat (by omega)
    refine evSucc (fun k => by rw [spec_l05Table.l0]) ?_
    rw [wrap_in (x := i + 1) (by omega) (by omega), wrap_in (by omega) (by omega)]
    refine evT (by omega) ?_
    have e : ((2 * 3 ^ i.toNat : Nat) : Int) * 3 = ((2 * 3 ^ (i + 1).toNat : Nat) : Int) := by
      rw [show (i + 1).toNat = i.toNat + 1 by omega, Nat.pow_succ]
      omega
    rw [e]
    exact ih (i + 1) (by omega) (by omega)
theorem table_spec (P L R B : Int) (hP : 1 ≤ P ∧ P ≤ 8) : Ev (fun k => spec_l05Table.f k P L R B) (List.replicate (2 * 3 ^ P.toNat) 0) := by
  unfold spec_l05Table.f
  exact table_l P L R B hP P.toNat 0 (by omega) (by omega)

/-- The states of a field's table, and their places. -/
def stOk (P : Int) (s : Nat × Nat × Int) : Prop := Two P.toNat s.1 s.2.1 ∧ (s.2.2 = 0 ∨ s.2.2 = 1)
def stPl (P : Int) (s : Nat × Nat × Int) : Nat := pl3 s.1 s.2.1 P.toNat * 2 + s.2.2.toNat
theorem stPl_inj (P : Int) (s s' : Nat × Nat × Int) (h : stOk P s) (h' : stOk P s') (e : stPl P s = stPl P s') : s = s' := by
  obtain ⟨a, b, p⟩ := s
  obtain ⟨c, d, q⟩ := s'
  have hp := h.2
  have hq := h'.2
  unfold stPl at e
  simp only at e hp hq
  obtain ⟨rfl, rfl⟩ := pl3_inj h.1 h'.1 (by simp only; omega)
  obtain rfl : p = q := by omega
  rfl
theorem stPl_lt (P : Int) (s : Nat × Nat × Int) (h : stOk P s) : stPl P s < 2 * 3 ^ P.toNat := by
  have := pl3_lt s.1 s.2.1 h.1.2.2 P.toNat
  have hp := h.2
  unfold stPl
  omega
def valW (P L g : Int) (s : Nat × Nat × Int) : Int := if W P L g s.1 s.2.1 s.2.2 = true then 2 else 1
def TabW (P L g : Int) (t : List Int) : Prop := Tab (stOk P) (stPl P) (valW P L g) (2 * 3 ^ P.toNat) t
theorem TabW.new (P L g : Int) : TabW P L g (List.replicate (2 * 3 ^ P.toNat) 0) := Tab.new (fun s h => stPl_lt P s h)
theorem TabW.put {P L g : Int} {t : List Int} (h : TabW P L g t) (a b : Nat) (p : Int) (hs : stOk P (a, b, p)) (i : Int) (hi : i = (pl3 a b P.toNat : Int) * 2 + p) (v : Int) (hv : v = valW P L g (a, b, p)) : TabW P L g (t.set i.toNat v) := by
  have hp := hs.2
  simp only at hp
  have e : i.toNat = stPl P (a, b, p) := by unfold stPl; simp only; omega
  rw [e, hv]
  exact Tab.set h (stPl_inj P) _ hs
theorem TabW.at {P L g : Int} {t : List Int} (h : TabW P L g t) (a b : Nat) (p : Int) (hs : stOk P (a, b, p)) : (pl3 a b P.toNat : Int) * 2 + p < t.length ∧ (rd t ((pl3 a b P.toNat : Int) * 2 + p) = 0 ∨ rd t ((pl3 a b P.toNat : Int) * 2 + p) = valW P L g (a, b, p)) := by
  have hp := hs.2
  simp only at hp
  have e : ((pl3 a b P.toNat : Int) * 2 + p).toNat = stPl P (a, b, p) := by unfold stPl; simp only; omega
  obtain ⟨h1, h2⟩ := h.2 _ hs
  refine ⟨by rw [h.1]; omega, ?_⟩
  unfold rd
  rw [e]
  exact h2
theorem drop_cons {l rest : List Int} {x : Int} {j : Nat} (h : l.drop j = x :: rest) : j < l.length ∧ rd l (j : Int) = x ∧ l.drop (j + 1) = rest ∧ x ∈ l := by
  have hj : j < l.length := by
    rcases Nat.lt_or_ge j l.length with c | c
    · exact c
    · rw [List.drop_eq_nil_of_le c] at h; cases h
  have e := List.drop_eq_getElem_cons hj
  rw [h] at e
  injection e with e1 e2
  refine ⟨hj, ?_, e2.symm, ?_⟩
  · unfold rd
    rw [Int.toNat_natCast, List.getD_eq_getElem?_getD, List.getElem?_eq_getElem hj, e1]
    rfl
  · rw [e1]
    exact List.getElem_mem hj
theorem wins_l (P L g : Int) (hP : 1 ≤ P ∧ P ≤ 8) (a b : Nat) (p : Int) (hp : p = 0 ∨ p = 1) (h : Two P.toNat a b)
    (ih : ∀ i, i ∈ ptsL P L a b g p → ∀ T, TabW P L g T → ∃ T', Ev (fun k => spec_l05Wins.f k P L (mvA p a i) (mvC p b i) g (1 - p) T) (W P L g (mvA p a i) (mvC p b i) (1 - p), T') ∧ TabW P L g T')
    (rest : List Int) : ∀ (j : Nat) (T : List Int) (out : Bool), (ptsL P L a b g p).drop j = rest → TabW P L g T → W P L g a b p = (out || rest.any fun i => !W P L g (mvA p a i) (mvC p b i) (1 - p)) →
      ∃ T', Ev (fun k => spec_l05Wins.l0 k g p T ((pl3 a b P.toNat : Int) * 2 + p) (ptsL P L a b g p) out j P L a b) (W P L g a b p, T') ∧ TabW P L g T' := by
  have hl := ptsL_len P L a b g p hP.2
  have hs := h.small (by omega)
  have fin : ∀ (j : Nat) (T : List Int) (out : Bool), TabW P L g T → W P L g a b p = out → ∃ T', Ev (fun k => spec_l05Wins.j1 k g p T ((pl3 a b P.toNat : Int) * 2 + p) (ptsL P L a b g p) out j false P L a b) (W P L g a b p, T') ∧ TabW P L g T' := by
    intro j T out hT hW
    obtain ⟨h1, _⟩ := hT.at a b p ⟨h, hp⟩
    cases out with
    | true =>
      refine ⟨T.set ((pl3 a b P.toNat : Int) * 2 + p).toNat 2, ?_, hT.put a b p ⟨h, hp⟩ _ rfl 2 (by simp [valW, hW])⟩
      refine evSucc (fun k => by rw [spec_l05Wins.j1]) ?_
      refine evF (by simp) (evT (by omega) (evT h1 (evG rfl (evT rfl (evE ?_ (evS _))))))
      rw [List.set_set, hW]
    | false =>
      refine ⟨T.set ((pl3 a b P.toNat : Int) * 2 + p).toNat 1, ?_, hT.put a b p ⟨h, hp⟩ _ rfl 1 (by simp [valW, hW])⟩
      refine evSucc (fun k => by rw [spec_l05Wins.j1]) ?_
      refine evF (by simp) (evT (by omega) (evT h1 (evG rfl (evF (by simp) (evE ?_ (evS _))))))
      rw [hW]
  induction rest with
  | nil =>
    intro j T out hd hT hW
    simp only [List.any_nil, Bool.or_false] at hW
    obtain ⟨T', h1, h2⟩ := fin j T out hT hW
    refine ⟨T', ?_, h2⟩
    have hj := List.drop_eq_nil_iff.1 hd
    refine evSucc (fun k => by rw [spec_l05Wins.l0]) ?_
    exact evF (by omega) h1
  | cons x rest ihr =>
    intro j T out hd hT hW
    obtain ⟨hj, hx, hd2, hmem⟩ := drop_cons hd
    cases out with
    | true =>
      obtain ⟨T', h1, h2⟩ := fin j T true hT (by simpa using hW)
      refine ⟨T', ?_, h2⟩
      refine evSucc (fun k => by rw [spec_l05Wins.l0]) ?_
      exact evT (by omega) h1
    | false =>
      obtain ⟨T1, h1, h2⟩ := ih x hmem T hT
      obtain ⟨T', h3, h4⟩ := ihr (j + 1) T1 (!W P L g (mvA p a x) (mvC p b x) (1 - p)) hd2 h2 (by simpa using hW)
      refine ⟨T', ?_, h4⟩
      obtain ⟨i0, i1, i2, i3⟩ := ptsL_free P L g p a b hP h x hmem
      refine evSucc (fun k => by rw [spec_l05Wins.l0]) ?_
      refine evT (by omega) ?_
      refine evSucc (fun k => by rw [spec_l05Wins.j1]) ?_
      refine evT (by rfl) (evT (by omega) (evT (by omega) ?_))
      rw [hx, move_spec P L a b p x i0 (by omega), mvR_nat a p x hs.1 i0 (by omega), mvB_nat b p x hs.2 i0 (by omega), wrap_in (x := 1 - p) (by omega) (by omega), wrap_in (x := (j : Int) + 1) (by omega) (by omega)]
      exact evG rfl (evB h1 h3)
theorem wins_spec (P L g : Int) (hP : 1 ≤ P ∧ P ≤ 8) (m : Nat) : ∀ (a b : Nat) (p : Int) (T : List Int), (p = 0 ∨ p = 1) → Two P.toNat a b → fr a b P.toNat < m → TabW P L g T →
    ∃ T', Ev (fun k => spec_l05Wins.f k P L a b g p T) (W P L g a b p, T') ∧ TabW P L g T' := by
  induction m with
  | zero => intro a b p T hp h hm; omega
  | succ m ihm =>
    intro a b p T hp h hm hT
    have hs := h.small (by omega)
    have k62 : (2 : Nat) ^ 62 = 4611686018427387904 := by decide
    obtain ⟨h1, h2⟩ := hT.at a b p ⟨h, hp⟩
    have hpl := place_spec P L p a b hP hp h
    by_cases hk : rd T ((pl3 a b P.toNat : Int) * 2 + p) > 0
    · refine ⟨T, ?_, hT⟩
      refine evSucc (fun k => by rw [spec_l05Wins.f]) ?_
      refine evB hpl (evT (by omega) (evT h1 (evT hk (evE ?_ (evS _)))))
      have hv : rd T ((pl3 a b P.toNat : Int) * 2 + p) = valW P L g (a, b, p) := by omega
      rw [hv]
      unfold valW
      cases W P L g a b p <;> rfl
    · obtain ⟨T', h3, h4⟩ := wins_l P L g hP a b p hp h (fun i hi T hT => by
        obtain ⟨i0, i1, i2, i3⟩ := ptsL_free P L g p a b hP h i hi
        obtain ⟨m1, m2⟩ := h.move p i i2 i3
        exact ihm _ _ _ T (by omega) m1 (by omega) hT) (ptsL P L a b g p) 0 T false rfl hT (by rw [W_eq P L g p a b hP h]; simp)
      refine ⟨T', ?_, h4⟩
      refine evSucc (fun k => by rw [spec_l05Wins.f]) ?_
      exact evB hpl (evT (by omega) (evT h1 (evF hk (evB (points_spec P L a b g p hP (by omega) (by omega)) h3))))
end Go.Proofs.Ytimoadhkkbedhaa.B
