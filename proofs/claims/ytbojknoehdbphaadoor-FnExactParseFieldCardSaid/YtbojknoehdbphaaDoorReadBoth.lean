/-
  Plain: of a field's text both read the field; of another text neither does. Texts of at most 1,048,576 letters.
-/
import Derived.Test.YtbojknoehdbphaaDoorReadSpec
import Derived.Test.YtbojknoehdbphaaDoorOutParse
namespace Go.Proofs.YtbojknoehdbphaaDoor.B
open Go.RowKit Go.Proofs.YtbojknoehdbphaaDoor.Q Go.Proofs.YtbojknoehdbphaaDoorW.PrintWords Go.Proofs.YtbojknoehdbphaaDoorW.PrintLast Go.Proofs.YtbojknoehdbphaaDoorW.PrintMore

theorem splitQ_pre (c : UInt8) : ∀ (x cur y : List UInt8), c ∉ x → splitQ c cur (x ++ y) = splitQ c (cur ++ x) y
  | [], cur, y, _ => by simp
  | b :: x, cur, y, h => by
    have hb : b ≠ c := fun e => h (by simp [e])
    rw [List.cons_append, splitQ, if_neg hb, splitQ_pre c x _ y (fun hr => h (by simp [hr]))]
    simp
def rowsT (L : Int) : Nat → Nat → List (List UInt8)
  | 0, _ => []
  | d + 1, j => segL L j j 0 :: rowsT L d (j + 1)
theorem segL_no (L : Int) (j : Nat) : ∀ d i, (44 : UInt8) ∉ segL L j d i
  | 0, _ => by simp [segL]
  | d + 1, i => by
    rw [segL, List.mem_cons]
    rintro (h | h)
    · unfold chL at h
      split at h <;> cases h
    · exact segL_no L j d (i + 1) h
theorem segC_no (a b : Nat) : ∀ d i, (44 : UInt8) ∉ segC a b d i
  | 0, _ => by simp [segC]
  | d + 1, i => by
    rw [segC, List.mem_cons]
    rintro (h | h)
    · unfold chC at h
      split at h
      · cases h
      · split at h <;> cases h
    · exact segC_no a b d (i + 1) h
theorem split_tail (L : Int) : ∀ (d j : Nat) (cur : List UInt8), splitQ 44 cur (tailT L d j) = cur :: rowsT L d j
  | 0, _, cur => by simp [tailT, splitQ, rowsT]
  | d + 1, j, cur => by
    rw [tailT, splitQ, if_pos rfl, splitQ_pre 44 _ _ _ (segL_no L j j 0), List.nil_append, split_tail L d (j + 1), rowsT]
theorem split_text (p : Nat) (L : Int) (a b : Nat) : splitQ 44 [] (textT p L a b) = segC a b p 0 :: rowsT L (p - 1) 1 := by
  unfold textT
  rw [splitQ_pre 44 _ _ _ (segC_no a b p 0), List.nil_append, split_tail]
theorem rowsT_len (L : Int) : ∀ d j, (rowsT L d j).length = d
  | 0, _ => rfl
  | d + 1, j => by simp [rowsT, rowsT_len]
theorem rowsT_get (L : Int) : ∀ (d j i : Nat), i < d → (rowsT L d j).getD i [] = segL L (j + i) (j + i) 0
  | 0, _, _, h => by omega
  | d + 1, j, 0, _ => by simp [rowsT]
  | d + 1, j, i + 1, h => by
    rw [rowsT, List.getD_cons_succ, rowsT_get L d (j + 1) i (by omega), show j + 1 + i = j + (i + 1) by omega]
theorem segL_get (L : Int) (j : Nat) : ∀ (d i k : Nat), k < d → lt_ (segL L j d i) k = chL L (i + k) j
  | 0, _, _, h => by omega
  | d + 1, i, 0, _ => by simp [segL, lt_]
  | d + 1, i, k + 1, h => by
    have := segL_get L j d (i + 1) k (by omega)
    unfold lt_ at this ⊢
    rw [segL, List.getD_cons_succ, this, show i + 1 + k = i + (k + 1) by omega]
theorem segC_get (a b : Nat) : ∀ (d i k : Nat), k < d → lt_ (segC a b d i) k = chC a b (i + k)
  | 0, _, _, h => by omega
  | d + 1, i, 0, _ => by simp [segC, lt_]
  | d + 1, i, k + 1, h => by
    have := segC_get a b d (i + 1) k (by omega)
    unfold lt_ at this ⊢
    rw [segC, List.getD_cons_succ, this, show i + 1 + k = i + (k + 1) by omega]
theorem mod_on (a i : Nat) (h : a.testBit i = true) : a % 2 ^ i ||| 2 ^ i = a % 2 ^ (i + 1) := by
  refine Nat.eq_of_testBit_eq (fun j => ?_)
  rw [or_bit, Nat.testBit_mod_two_pow, Nat.testBit_mod_two_pow]
  by_cases e : i = j
  · subst e
    simp [h]
  · by_cases hl : j < i
    · simp [hl, e, show j < i + 1 by omega]
    · simp [hl, e, show ¬ j < i + 1 by omega]
theorem mod_off (a i : Nat) (h : a.testBit i = false) : a % 2 ^ i = a % 2 ^ (i + 1) := by
  refine Nat.eq_of_testBit_eq (fun j => ?_)
  rw [Nat.testBit_mod_two_pow, Nat.testBit_mod_two_pow]
  by_cases e : i = j
  · subst e
    simp [h]
  · by_cases hl : j < i
    · simp [hl, show j < i + 1 by omega]
    · simp [hl, show ¬ j < i + 1 by omega]
theorem jn_bit (L i j : Nat) (hL : L < 2 ^ 62) (hi : i < j) (hj : j ≤ 8) : jn (L : Int) (i : Int) (j : Int) = L.testBit (tri j + i) := by
  have h1 : mx (i : Int) (j : Int) = (j : Int) := by unfold mx; split <;> omega
  have h2 : mn (i : Int) (j : Int) = (i : Int) := by unfold mn; split <;> omega
  have ht := tri_le j hj
  have h3 := trI_nat j (by omega)
  have h0 : (0 : Int) ≤ ((tri j + i : Nat) : Int) := Int.natCast_nonneg _
  have h4 : ((tri j + i : Nat) : Int) ≤ 60 := by clear hL; omega
  unfold jn
  rw [h1, h2, h3, show (tri j : Int) + (i : Int) = ((tri j + i : Nat) : Int) by omega, dig_bit L _ hL h0 h4, show ((tri j + i : Nat) : Int).toNat = tri j + i by omega]
  cases L.testBit (tri j + i) <;> rfl
/-- A field. -/
structure Fld (p L a b : Nat) : Prop where
  p1 : 1 ≤ p
  p8 : p ≤ 8
  l : L < 2 ^ tri p
  two : Two p a b
theorem pow28 {p : Nat} (h : p ≤ 8) : 2 ^ tri p ≤ 2 ^ 28 := Nat.pow_le_pow_right (by decide) (tri_le p h)
theorem Fld.small {p L a b : Nat} (h : Fld p L a b) : L < 268435456 ∧ a < 256 ∧ b < 256 := by
  have h1 := pow28 h.p8
  have h2 : 2 ^ p ≤ 2 ^ 8 := Nat.pow_le_pow_right (by decide) h.p8
  have h3 := h.l
  have h4 := h.two.1
  have h5 := h.two.2.1
  have k1 : (2 : Nat) ^ 28 = 268435456 := by decide
  have k2 : (2 : Nat) ^ 8 = 256 := by decide
  rw [k1] at h1
  rw [k2] at h2
  exact ⟨Nat.lt_of_lt_of_le h3 h1, Nat.lt_of_lt_of_le h4 h2, Nat.lt_of_lt_of_le h5 h2⟩
theorem two_and {p a b : Nat} (h : Two p a b) : a &&& b = 0 := by
  refine Nat.eq_of_testBit_eq (fun i => ?_)
  rw [Nat.testBit_and, Nat.zero_testBit]
  have := (dg_three a b i).1 (h.2.2 i)
  cases ha : a.testBit i <;> cases hb : b.testBit i <;> simp_all
theorem Fld.is {p L a b : Nat} (h : Fld p L a b) : impl_IsField.f (p : Int) (L : Int) (a : Int) (b : Int) = some true := by
  obtain ⟨s1, s2, s3⟩ := h.small
  have h1 := h.p1
  have h8 := h.p8
  have htp := tri_le p h8
  have hT := trI_nat p (by omega)
  have e1 : wrap64 (shl .i64 1 (tri p : Int) - 1) = ((2 ^ tri p : Nat) : Int) - 1 := by
    rw [shl_nat _ (by omega)]
    have := pow28 h8
    have k1 : (2 : Nat) ^ 28 = 268435456 := by decide
    rw [k1] at this
    generalize 2 ^ tri p = m at this
    exact wrap_in (by omega) (by omega)
  have e2 : wrap64 (shl .i64 1 (p : Int) - 1) = ((2 ^ p : Nat) : Int) - 1 := by
    rw [shl_nat _ (by omega)]
    have : 2 ^ p ≤ 2 ^ 8 := Nat.pow_le_pow_right (by decide) h8
    have k1 : (2 : Nat) ^ 8 = 256 := by decide
    rw [k1] at this
    generalize 2 ^ p = m at this
    exact wrap_in (by omega) (by omega)
  have hl := h.l
  have ha := h.two.1
  have hb := h.two.2.1
  have hand : Go.bits .and .i64 (a : Int) (b : Int) = 0 := by
    rw [and_nat a b (Nat.lt_trans s2 (by decide)) (Nat.lt_trans s3 (by decide)), two_and h.two]
    rfl
  unfold trI at hT
  unfold impl_IsField.f impl_pairs.f
  simp only [within_eq, Option.bind_some]
  rw [hT, e1, e2, hand]
  generalize 2 ^ tri p = m1 at hl
  generalize 2 ^ p = m2 at ha hb
  rw [if_pos (decide_eq_true (show 1 ≤ (p : Int) ∧ (p : Int) ≤ 8 by omega)), if_pos (by omega), if_pos (decide_eq_true (show 0 ≤ (L : Int) ∧ (L : Int) ≤ (m1 : Int) - 1 by omega)), if_pos (by omega), if_pos (decide_eq_true (show 0 ≤ (a : Int) ∧ (a : Int) ≤ (m2 : Int) - 1 by omega)), if_pos (decide_eq_true (show 0 ≤ (b : Int) ∧ (b : Int) ≤ (m2 : Int) - 1 by omega))]
  rfl
theorem chC_r (a b i : Nat) (h : dg a b i ≠ 3) : (chC a b i = 114 ↔ a.testBit i = true) ∧ (chC a b i = 98 ↔ b.testBit i = true) := by
  have h3 := (dg_three a b i).1 h
  unfold chC
  cases ha : a.testBit i <;> cases hb : b.testBit i <;> simp_all
/-- Of a field's text the reference reads the field. -/
theorem spec_reads {p L a b : Nat} (h : Fld p L a b) : Ev (fun k => spec_l05Read.f k (BA (textT p L a b))) ((p : Int), (L : Int), (a : Int), (b : Int), true) := by
  obtain ⟨s1, s2, s3⟩ := h.small
  have h1 := h.p1
  have h8 := h.p8
  have hrs := split_text p L a b
  have hlen := textT_len p L a b h8
  obtain ⟨rs, hr⟩ : ∃ rs, rs = splitQ 44 [] (textT p L a b) := ⟨_, rfl⟩
  rw [← hr] at hrs
  have hn : rs.length = p := by rw [hrs, List.length_cons, rowsT_len]; omega
  have hr0 : rowAt rs 0 = segC a b p 0 := by rw [hrs]; rfl
  have hrj : ∀ j, 1 ≤ j → j < p → rowAt rs j = segL L j j 0 := fun j j1 j2 => by
    obtain ⟨i, rfl⟩ : ∃ i, j = i + 1 := ⟨j - 1, by omega⟩
    unfold rowAt
    rw [hrs, List.getD_cons_succ, rowsT_get L _ 1 i (by omega), show 1 + i = i + 1 by omega]
  have hn8 : 1 ≤ rs.length ∧ rs.length ≤ 8 := by omega
  have hr0l : (rowAt rs 0).length = rs.length := by rw [hr0, segC_len, hn]
  obtain ⟨R', B', g1, g2⟩ := read0 (s := BA (textT p L a b)) hn8 hr0l (fun i R B => R = a % 2 ^ i ∧ B = b % 2 ^ i)
    (fun i R B hI => by
      have k1 : (2 : Nat) ^ 61 = 2305843009213693952 := by decide
      rw [k1, hI.1, hI.2]
      exact ⟨Nat.lt_of_le_of_lt (Nat.mod_le _ _) (by omega), Nat.lt_of_le_of_lt (Nat.mod_le _ _) (by omega)⟩)
    (fun i R B hi ⟨e1, e2⟩ => by
      rw [hr0, segC_get a b p 0 i (by omega), Nat.zero_add, e1, e2]
      obtain ⟨c1, c2⟩ := chC_r a b i (h.two.2.2 i)
      have h3 := (dg_three a b i).1 (h.two.2.2 i)
      refine ⟨fun c => ?_, fun n c => ?_, fun n m => ?_⟩
      · have ta := c1.1 c
        have tb : b.testBit i = false := by cases hb : b.testBit i; rfl; exact absurd ⟨ta, hb⟩ h3
        exact ⟨mod_on a i ta, mod_off b i tb⟩
      · have tb := c2.1 c
        have ta : a.testBit i = false := by cases ha : a.testBit i; rfl; exact absurd (c1.2 ha) n
        exact ⟨mod_off a i ta, mod_on b i tb⟩
      · have ta : a.testBit i = false := by cases ha : a.testBit i; rfl; exact absurd (c1.2 ha) n
        have tb : b.testBit i = false := by cases hb : b.testBit i; rfl; exact absurd (c2.2 hb) m
        exact ⟨mod_off a i ta, mod_off b i tb⟩) rs.length 0 0 0 (by omega) (by simp [Nat.mod_one])
  rw [hn, Nat.mod_eq_of_lt h.two.1, Nat.mod_eq_of_lt h.two.2.1] at g1
  obtain ⟨rfl, rfl⟩ := g1
  obtain ⟨L', g3, g4⟩ := read1 (s := BA (textT p L R' B')) hn8 (R' : Int) (B' : Int) (fun i M => M = L % 2 ^ i)
    (fun i M hI => by
      have k1 : (2 : Nat) ^ 61 = 2305843009213693952 := by decide
      rw [k1, hI]
      exact Nat.lt_of_le_of_lt (Nat.mod_le _ _) (by omega))
    (fun j j1 j2 _ i M hi hI => by
      rw [hrj j j1 (by omega), segL_get L j j 0 i hi, Nat.zero_add, hI]
      unfold chL
      rw [jn_bit L i j (Nat.lt_trans s1 (by decide)) hi (by omega)]
      cases hb : L.testBit (tri j + i) with
      | true => exact ⟨fun _ => mod_on L _ hb, fun c => absurd rfl c⟩
      | false => exact ⟨fun c => absurd c (by decide), fun _ => mod_off L _ hb⟩)
    (fun j M j1 j2 hl => absurd (by rw [hrj j j1 (by omega), segL_len]) hl) (rs.length - 1) 1 0 (by omega) (by omega) (by simp [tri, Nat.mod_one])
  rw [hn, Nat.mod_eq_of_lt h.l] at g3
  subst g3
  unfold spec_l05Read.f
  refine evB (split_spec 44 _ (by omega)) ?_
  rw [← hr, List.length_map]
  refine evF (by omega) (evT (by omega) ?_)
  have hr0' : rdOf ByteArray.empty (rs.map BA) 0 = BA (rowAt rs 0) := rdOf_row rs 0 (by omega)
  rw [hr0', BA_size, hr0l]
  refine evSucc (fun k => by rw [spec_l05Read.j0]) (evF (by simp) ?_)
  rw [hn] at g2 g4 ⊢
  refine g2 _ (g4 _ ?_)
  refine evB (form_spec (P := (p : Int)) (by omega) (by simpa using h.two)) ?_
  simp
  exact evS _
/-- Of any text it reads a field and asks for its text, or it reads none. -/
theorem spec_any (l : List UInt8) (hl : l.length ≤ 1000000000) : (∃ x1 x2 x3 x4, Ev (fun k => spec_l05Read.f k (BA l)) (x1, x2, x3, x4, false)) ∨ ∃ p L a b, Fld p L a b ∧ l = textT p L a b := by
  obtain ⟨rs, hr⟩ : ∃ rs, rs = splitQ 44 [] l := ⟨_, rfl⟩
  have hne : 1 ≤ rs.length := by rw [hr, splitQ_len]; omega
  have hr0' : rdOf ByteArray.empty (rs.map BA) 0 = BA (rowAt rs 0) := rdOf_row rs 0 (by omega)
  by_cases h8 : rs.length ≤ 8
  rotate_left
  · left
    refine ⟨0, 0, 0, 0, ?_⟩
    unfold spec_l05Read.f
    refine evB (split_spec 44 _ hl) ?_
    rw [← hr, List.length_map]
    refine evT (by omega) (evSucc (fun k => by rw [spec_l05Read.j0]) (evT rfl (evS _)))
  by_cases hr0l : (rowAt rs 0).length = rs.length
  rotate_left
  · left
    refine ⟨0, 0, 0, 0, ?_⟩
    unfold spec_l05Read.f
    refine evB (split_spec 44 _ hl) ?_
    rw [← hr, List.length_map]
    refine evF (by omega) (evT (by omega) ?_)
    rw [hr0', BA_size]
    exact evSucc (fun k => by rw [spec_l05Read.j0]) (evT (by simp; omega) (evS _))
  obtain ⟨R', B', g1, g2⟩ := read0 (s := BA l) ⟨hne, h8⟩ hr0l (fun i R B => Two i R B ∧ i ≤ rs.length)
    (fun i R B hI => ⟨lt61 hI.1.1 (by omega), lt61 hI.1.2.1 (by omega)⟩)
    (fun i R B hi ⟨hI, _⟩ => by
      have up : Two (i + 1) R B := ⟨Nat.lt_trans hI.1 (Nat.pow_lt_pow_right (by decide) (by omega)), Nat.lt_trans hI.2.1 (Nat.pow_lt_pow_right (by decide) (by omega)), hI.2.2⟩
      have z : dg R B i = 0 := (dg_zero R B i).2 ⟨bit_ge i R i hI.1 (Nat.le_refl _), bit_ge i B i hI.2.1 (Nat.le_refl _)⟩
      exact ⟨fun _ => ⟨up.left (by omega) z, by omega⟩, fun _ _ => ⟨up.right (by omega) z, by omega⟩, fun _ _ => ⟨up, by omega⟩⟩) rs.length 0 0 0 (by omega) ⟨⟨by decide, by decide, fun i => by simp [dg]⟩, by omega⟩
  obtain ⟨L', g3, g4⟩ := read1 (s := BA l) ⟨hne, h8⟩ (R' : Int) (B' : Int) (fun i M => M < 2 ^ i ∧ i ≤ 28)
    (fun i M hI => lt61 hI.1 (by omega))
    (fun j j1 j2 _ i M hi hI => by
      have ht := tri_le (j + 1) (by omega)
      rw [tri_succ] at ht
      exact ⟨fun _ => ⟨or_lt _ M _ (Nat.lt_trans hI.1 (Nat.pow_lt_pow_right (by decide) (by omega))) (by omega), by omega⟩, fun _ => ⟨Nat.lt_trans hI.1 (Nat.pow_lt_pow_right (by decide) (by omega)), by omega⟩⟩)
    (fun j M j1 j2 _ hI => by
      have ht := tri_le (j + 1) (by omega)
      refine ⟨Nat.lt_of_lt_of_le hI.1 (Nat.pow_le_pow_right (by decide) ?_), ht⟩
      rw [tri_succ]
      omega) (rs.length - 1) 1 0 (by omega) (by omega) ⟨by decide, by decide⟩
  have hF : Fld rs.length L' R' B' := ⟨hne, h8, g3.1, g1.1⟩
  have walk : Ev (fun k => spec_l05Read.f k (BA l)) ((rs.length : Int), (L' : Int), (R' : Int), (B' : Int), ((BA (textT rs.length L' R' B')).toList == (BA l).toList)) := by
    unfold spec_l05Read.f
    refine evB (split_spec 44 _ hl) ?_
    rw [← hr, List.length_map]
    refine evF (by omega) (evT (by omega) ?_)
    rw [hr0', BA_size, hr0l]
    refine evSucc (fun k => by rw [spec_l05Read.j0]) (evF (by simp) ?_)
    refine g2 _ (g4 _ ?_)
    exact evB (form_spec (P := (rs.length : Int)) (by omega) (by simpa using hF.two)) (evS _)
  by_cases e : textT rs.length L' R' B' = l
  · exact Or.inr ⟨_, _, _, _, hF, e.symm⟩
  · left
    refine ⟨(rs.length : Int), (L' : Int), (R' : Int), (B' : Int), ?_⟩
    rw [BA_toList, BA_toList, beq_eq_false_iff_ne.mpr e] at walk
    exact walk
/-- The letters of a set, read by the program. -/
theorem sets_eq (r : List UInt8) (hr : ∀ x ∈ r, x.toNat < 128) (hl : r.length ≤ 60) (c : UInt8) (I : Nat → Nat → Prop) (hsm : ∀ i x, I i x → x < 2 ^ 61)
    (hst : ∀ i x, i < r.length → I i x → (lt_ r i = c → I (i + 1) (x ||| 2 ^ i)) ∧ (lt_ r i ≠ c → I (i + 1) x)) (d : Nat) : ∀ (i x : Nat), i + d = r.length → I i x → ∃ y : Nat, I r.length y ∧ setsF (BA r) (c.toNat : Int) 64 d i (x : Int) = (y : Int) := by
  induction d with
  | zero =>
    intro i x hi hI
    exact ⟨x, by rw [← hi]; exact hI, rfl⟩
  | succ d ih =>
    intro i x hi hI
    have hlt : i < r.length := by omega
    have hsz : i < (BA r).size := by rw [BA_size]; exact hlt
    have hmem : r[i].toNat < 128 := hr _ (List.getElem_mem hlt)
    have hg : (BA r)[i]'hsz = r[i] := by simp [BA]; rfl
    have hdec : Utf8.decode (BA r) i = (r[i].toNat, 1) := by
      rw [decode_ascii (BA r) i hsz (by rw [hg]; exact hmem), hg]
    have hlt2 : lt_ r i = r[i] := by
      unfold lt_
      rw [List.getD_eq_getElem?_getD, List.getElem?_eq_getElem hlt]
      rfl
    have hru : runeI (BA r) i = (r[i].toNat : Int) := by unfold runeI; rw [hdec]
    have hwi : wideI (BA r) i = 1 := by unfold wideI; rw [hdec]
    rw [setsF, if_pos hsz, if_pos (show i < 64 by omega), hru, hwi]
    obtain ⟨t1, t2⟩ := hst i x hlt hI
    rw [hlt2] at t1 t2
    by_cases e : r[i] = c
    · obtain ⟨y, y1, y2⟩ := ih (i + 1) (x ||| 2 ^ i) (by omega) (t1 e)
      refine ⟨y, y1, ?_⟩
      have hp : wrap64 ((if (r[i].toNat : Int) = (c.toNat : Int) then 1 else 0) * 2 ^ i) = shl .i64 1 (i : Int) := by
        rw [if_pos (by rw [e]), shl_nat i (by omega), Int.one_mul]
        have h1 : 2 ^ i ≤ 2 ^ 60 := Nat.pow_le_pow_right (by decide) (by omega)
        have k1 : (2 : Nat) ^ 60 = 1152921504606846976 := by decide
        rw [k1] at h1
        have e2 : ((2 : Int) ^ i) = ((2 ^ i : Nat) : Int) := by push_cast; rfl
        rw [e2]
        generalize 2 ^ i = m at h1
        exact wrap_in (by omega) (by omega)
      rw [hp, or_step x i (hsm i x hI) (by omega)]
      exact y2
    · obtain ⟨y, y1, y2⟩ := ih (i + 1) x (by omega) (t2 e)
      refine ⟨y, y1, ?_⟩
      have hp : wrap64 ((if (r[i].toNat : Int) = (c.toNat : Int) then 1 else 0) * 2 ^ i) = ((0 : Nat) : Int) := by
        rw [if_neg (fun h => e (UInt8.toNat_inj.1 (by omega))), Int.zero_mul]
        exact wrap_in (by omega) (by omega)
      rw [hp, or_nat x 0 (Nat.lt_trans (hsm i x hI) (by decide)) (by decide), Nat.or_zero]
      exact y2
theorem join_flat (xs : List (List UInt8)) : Lib.join xs [] = xs.flatten := by
  induction xs with
  | nil => rfl
  | cons x xs ih =>
    unfold Lib.join at ih ⊢
    cases xs with
    | nil => simp [List.intercalate]
    | cons y ys =>
      simp only [List.intercalate, List.intersperse] at ih ⊢
      simp only [List.flatten_cons] at ih ⊢
      rw [ih]
      simp
/-- The lines' rows one behind the other. -/
theorem flat_get (L : Int) : ∀ (d j i k : Nat), j ≤ i → i < j + d → k < i → lt_ ((rowsT L d j).flatten) (tri i - tri j + k) = chL L k i
  | 0, _, _, _, _, h, _ => by omega
  | d + 1, j, i, k, h1, h2, h3 => by
    have hm : ∀ a b, a ≤ b → tri a ≤ tri b := by
      intro a b hab
      induction b with
      | zero => rw [show a = 0 by omega]; exact Nat.le_refl _
      | succ b ih =>
        by_cases e : a = b + 1
        · rw [e]; exact Nat.le_refl _
        · rw [tri_succ]
          have := ih (by omega)
          omega
    unfold lt_
    rw [rowsT, List.flatten_cons]
    by_cases e : i = j
    · subst e
      have := segL_get L i i 0 k h3
      unfold lt_ at this
      rw [Nat.sub_self, Nat.zero_add, List.getD_eq_getElem?_getD, List.getElem?_append_left (by rw [segL_len]; exact h3), ← List.getD_eq_getElem?_getD, this, Nat.zero_add]
    · have ih := flat_get L d (j + 1) i k (by omega) (by omega) h3
      unfold lt_ at ih
      have t1 := tri_succ j
      have t2 := hm (j + 1) i (by omega)
      have t3 := hm j i h1
      rw [List.getD_eq_getElem?_getD, List.getElem?_append_right (by rw [segL_len]; omega), segL_len, ← List.getD_eq_getElem?_getD, show tri i - tri j + k - j = tri i - tri (j + 1) + k by omega, ih]
theorem flat_len (L : Int) : ∀ d j, ((rowsT L d j).flatten).length = tri (j + d) - tri j
  | 0, j => by simp [rowsT]
  | d + 1, j => by
    rw [rowsT, List.flatten_cons, List.length_append, segL_len, flat_len L d (j + 1), show j + 1 + d = j + (d + 1) by omega, tri_succ]
    have : ∀ m, tri (j + 1) ≤ tri (j + 1 + m) := by
      intro m
      induction m with
      | zero => exact Nat.le_refl _
      | succ m ih =>
        have h2 := tri_succ (j + 1 + m)
        rw [show j + 1 + (m + 1) = (j + 1 + m) + 1 by omega]
        omega
    have h1 := this d
    rw [tri_succ j, show j + 1 + d = j + (d + 1) by omega] at h1
    omega
/-- Each place of the triangle is one of a row. -/
theorem tri_place (n pos : Nat) (h : pos < tri n) : ∃ j k, k < j ∧ j < n ∧ pos = tri j + k := by
  induction n with
  | zero => exact absurd h (by simp [tri])
  | succ n ih =>
    rw [tri_succ] at h
    by_cases c : pos < tri n
    · obtain ⟨j, k, h1, h2, h3⟩ := ih c
      exact ⟨j, k, h1, by omega, h3⟩
    · exact ⟨n, pos - tri n, by omega, by omega, by omega⟩
theorem segC_ascii (a b : Nat) : ∀ d i, ∀ x ∈ segC a b d i, x.toNat < 128
  | 0, _, x, h => by cases h
  | d + 1, i, x, h => by
    rw [segC, List.mem_cons] at h
    rcases h with rfl | h
    · unfold chC
      split
      · decide
      · split <;> decide
    · exact segC_ascii a b d (i + 1) x h
theorem segL_ascii (L : Int) (j : Nat) : ∀ d i, ∀ x ∈ segL L j d i, x.toNat < 128
  | 0, _, x, h => by cases h
  | d + 1, i, x, h => by
    rw [segL, List.mem_cons] at h
    rcases h with rfl | h
    · unfold chL
      split <;> decide
    · exact segL_ascii L j d (i + 1) x h
theorem rows_ascii (L : Int) : ∀ d j, ∀ x ∈ (rowsT L d j).flatten, x.toNat < 128
  | 0, _, x, h => by cases h
  | d + 1, j, x, h => by
    rw [rowsT, List.flatten_cons, List.mem_append] at h
    rcases h with h | h
    · exact segL_ascii L j j 0 x h
    · exact rows_ascii L d (j + 1) x h
/-- Of a field's text the program reads the field. -/
theorem impl_reads {p L a b : Nat} (h : Fld p L a b) : Ev (fun k => impl_ParseField.f k (BA (textT p L a b))) ((p : Int), (L : Int), (a : Int), (b : Int), 0) := by
  obtain ⟨s1, s2, s3⟩ := h.small
  have h1 := h.p1
  have h8 := h.p8
  have hrs := split_text p L a b
  have hlen := textT_len p L a b h8
  have k1 : (2 : Nat) ^ 61 = 2305843009213693952 := by decide
  have hparts : partsS 44 (BA (textT p L a b)) = BA (segC a b p 0) :: (rowsT (L : Int) (p - 1) 1).map BA := by rw [parts_eq, hrs, List.map_cons]
  have htp := tri_le p h8
  have hfl : ((rowsT (L : Int) (p - 1) 1).flatten).length = tri p := by
    rw [flat_len, show 1 + (p - 1) = p by omega]
    exact Nat.sub_zero _
  have hjoin : strings_Join.f ((rowsT (L : Int) (p - 1) 1).map BA) ⟨#[]⟩ = some (BA ((rowsT (L : Int) (p - 1) 1).flatten)) := by
    have e : ((rowsT (L : Int) (p - 1) 1).map BA).map (·.data.toList) = rowsT (L : Int) (p - 1) 1 := by
      rw [List.map_map]
      conv => rhs; rw [← List.map_id (rowsT (L : Int) (p - 1) 1)]
      exact List.map_congr_left fun x _ => BA_data x
    unfold strings_Join.f
    rw [e]
    show (if _ ∧ (Lib.join (rowsT (L : Int) (p - 1) 1) []).length ≤ _ then some (BA (Lib.join (rowsT (L : Int) (p - 1) 1) [])) else none) = _
    rw [join_flat, if_pos ⟨by rw [List.length_map, rowsT_len]; omega, by rw [hfl]; omega⟩]
  obtain ⟨R, r1, r2⟩ := sets_eq (segC a b p 0) (segC_ascii a b p 0) (by rw [segC_len]; omega) 114 (fun i x => x = a % 2 ^ i) (fun i x hx => by rw [k1, hx]; exact Nat.lt_of_le_of_lt (Nat.mod_le _ _) (by omega))
    (fun i x hi hx => by
      rw [segC_len] at hi
      rw [segC_get a b p 0 i hi, Nat.zero_add, hx]
      have c1 := (chC_r a b i (h.two.2.2 i)).1
      exact ⟨fun c => mod_on a i (c1.1 c), fun c => mod_off a i (by cases ha : a.testBit i; rfl; exact absurd (c1.2 ha) c)⟩) p 0 0 (by rw [segC_len]; omega) (by simp [Nat.mod_one])
  obtain ⟨B, b1, b2⟩ := sets_eq (segC a b p 0) (segC_ascii a b p 0) (by rw [segC_len]; omega) 98 (fun i x => x = b % 2 ^ i) (fun i x hx => by rw [k1, hx]; exact Nat.lt_of_le_of_lt (Nat.mod_le _ _) (by omega))
    (fun i x hi hx => by
      rw [segC_len] at hi
      rw [segC_get a b p 0 i hi, Nat.zero_add, hx]
      have c1 := (chC_r a b i (h.two.2.2 i)).2
      exact ⟨fun c => mod_on b i (c1.1 c), fun c => mod_off b i (by cases hb : b.testBit i; rfl; exact absurd (c1.2 hb) c)⟩) p 0 0 (by rw [segC_len]; omega) (by simp [Nat.mod_one])
  obtain ⟨M, m1, m2⟩ := sets_eq ((rowsT (L : Int) (p - 1) 1).flatten) (rows_ascii L (p - 1) 1) (by rw [hfl]; omega) 49 (fun i x => x = L % 2 ^ i) (fun i x hx => by rw [k1, hx]; exact Nat.lt_of_le_of_lt (Nat.mod_le _ _) (by omega))
    (fun i x hi hx => by
      rw [hfl] at hi
      obtain ⟨j, k, hk, hj, rfl⟩ := tri_place p i hi
      have hg := flat_get (L : Int) (p - 1) 1 j k (by omega) (by omega) hk
      rw [show tri 1 = 0 from rfl, Nat.sub_zero] at hg
      rw [hg, hx]
      unfold chL
      rw [jn_bit L k j (Nat.lt_trans s1 (by decide)) hk (by omega)]
      cases hb : L.testBit (tri j + k) with
      | true => exact ⟨fun _ => mod_on L _ hb, fun c => absurd rfl c⟩
      | false => exact ⟨fun c => absurd c (by decide), fun _ => mod_off L _ hb⟩) (tri p) 0 0 (by rw [hfl]; omega) (by simp [Nat.mod_one])
  rw [segC_len, Nat.mod_eq_of_lt h.two.1] at r1
  rw [segC_len, Nat.mod_eq_of_lt h.two.2.1] at b1
  rw [hfl, Nat.mod_eq_of_lt h.l] at m1
  subst r1 b1 m1
  unfold impl_ParseField.f
  rw [hparts]
  simp only [List.headD_cons, List.drop_succ_cons, List.drop_zero]
  have r2' : setsF (BA (segC R B p 0)) 114 64 p 0 0 = (R : Int) := r2
  have b2' : setsF (BA (segC R B p 0)) 98 64 p 0 0 = (B : Int) := b2
  have m2' : setsF (BA (rowsT (M : Int) (p - 1) 1).flatten) 49 64 (tri p) 0 0 = (M : Int) := m2
  simp only [hjoin, Option.bind_some, BA_size, segC_len, hfl, r2', b2', m2']
  refine evT (by omega) (evT ⟨h1, h8⟩ (evB (form_impl h.is ⟨h1, h8⟩ h.two) ?_))
  exact evT ⟨rfl, rfl⟩ (evS _)
theorem split_sum (c : UInt8) : ∀ (l cur : List UInt8), (splitQ c cur l).flatten.length ≤ cur.length + l.length
  | [], cur => by simp [splitQ]
  | b :: r, cur => by
    rw [splitQ]
    split
    · have := split_sum c r []
      simp at this ⊢
      omega
    · have := split_sum c r (cur ++ [b])
      simp at this ⊢
      omega
theorem isField_fld (P L R B : Int) (h : impl_IsField.f P L R B = some true) : ∃ p l a b : Nat, P = p ∧ L = l ∧ R = a ∧ B = b ∧ Fld p l a b := by
  obtain ⟨p0, p1⟩ := field_facts P L R B h
  obtain ⟨a, b, rfl, rfl, h2⟩ := field_two P L R B h
  obtain ⟨p, rfl⟩ := Int.eq_ofNat_of_zero_le (show 0 ≤ P by omega)
  have hT := trI_nat p (by omega)
  have htp := tri_le p (by omega)
  have e1 : wrap64 (shl .i64 1 (tri p : Int) - 1) = ((2 ^ tri p : Nat) : Int) - 1 := by
    rw [shl_nat _ (by omega)]
    have := pow28 (p := p) (by omega)
    have k1 : (2 : Nat) ^ 28 = 268435456 := by decide
    rw [k1] at this
    generalize 2 ^ tri p = m at this
    exact wrap_in (by omega) (by omega)
  have hL : ∃ l : Nat, L = l ∧ l < 2 ^ tri p := by
    unfold trI at hT
    unfold impl_IsField.f impl_pairs.f at h
    simp only [within_eq, Option.bind_some] at h
    rw [hT, e1, if_pos (decide_eq_true (show 1 ≤ (p : Int) ∧ (p : Int) ≤ 8 by omega)), if_pos (by omega)] at h
    by_cases c : 0 ≤ L ∧ L ≤ ((2 ^ tri p : Nat) : Int) - 1
    · obtain ⟨l, rfl⟩ := Int.eq_ofNat_of_zero_le c.1
      exact ⟨l, rfl, by omega⟩
    · rw [if_neg (by simpa using c)] at h
      cases h
  obtain ⟨l, rfl, hl⟩ := hL
  exact ⟨p, l, a, b, rfl, rfl, rfl, rfl, by omega, by omega, hl, by simpa using h2⟩
/-- Another text the program doesn't read. -/
theorem impl_none (l : List UInt8) (hl : l.length ≤ 1048576) (hn : ∀ p L a b, Fld p L a b → l ≠ textT p L a b) : Ev (fun k => impl_ParseField.f k (BA l)) (0, 0, 0, 0, 6) := by
  have hp := parts_eq 44 l
  have hlen := splitQ_len 44 l []
  have hcnt : l.count 44 ≤ l.length := List.count_le_length
  have hne := splitQ_ne 44 l []
  unfold impl_ParseField.f
  rw [hp, BA_size]
  have hfs := split_sum 44 l []
  generalize splitQ 44 [] l = rs at hlen hne hfs
  cases rs with
  | nil => exact absurd rfl hne
  | cons r0 rs =>
    simp only [List.map_cons, List.headD_cons, List.drop_succ_cons, List.drop_zero]
    refine evT (by omega) ?_
    by_cases h8 : 1 ≤ (BA r0).size ∧ (BA r0).size ≤ 8
    rotate_left
    · exact evF h8 (evS _)
    refine evT h8 ?_
    have e : (rs.map BA).map (·.data.toList) = rs := by
      rw [List.map_map]
      conv => rhs; rw [← List.map_id rs]
      exact List.map_congr_left fun x _ => BA_data x
    have hjoin : strings_Join.f (rs.map BA) ⟨#[]⟩ = some (BA rs.flatten) := by
      unfold strings_Join.f
      rw [e]
      show (if _ ∧ (Lib.join rs []).length ≤ _ then some (BA (Lib.join rs [])) else none) = _
      rw [join_flat, if_pos ⟨by simp at hlen ⊢; omega, by simp at hfs ⊢; omega⟩]
    refine evG hjoin ?_
    generalize setsF (BA rs.flatten) 49 64 (BA rs.flatten).size 0 0 = L
    generalize setsF (BA r0) 114 64 (BA r0).size 0 0 = R
    generalize setsF (BA r0) 98 64 (BA r0).size 0 0 = B
    generalize ((BA r0).size : Int) = P
    obtain ⟨t, c, _, h3⟩ := both_text P L R B
    refine evB h3 (evF ?_ (evS _))
    rintro ⟨hc, ht⟩
    simp only at hc ht
    subst hc
    obtain ⟨b, hb⟩ := field_total P L R B
    cases b with
    | false =>
      have h4 : Ev (fun k => impl_FieldText.f k P L R B) ((⟨#[]⟩ : ByteArray), 1) := by
        unfold impl_FieldText.f
        exact evG hb (evF (by decide) (evS _))
      have := ev_uniq h3 h4
      simp at this
    | true =>
      obtain ⟨p, l', a, b, rfl, rfl, rfl, rfl, hF⟩ := isField_fld P L R B hb
      have h4 := form_impl hb ⟨hF.p1, hF.p8⟩ hF.two
      have h5 := ev_uniq h3 h4
      simp only [Prod.mk.injEq, and_true] at h5
      rw [h5, BA_toList, BA_toList] at ht
      exact hn p l' a b hF ht.symm
end Go.Proofs.YtbojknoehdbphaaDoor.B
