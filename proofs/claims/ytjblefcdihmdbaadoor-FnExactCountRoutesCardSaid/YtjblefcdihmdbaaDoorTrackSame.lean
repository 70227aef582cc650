/-
  What a track is: the reference's scan and the program's search say the same, of few rows of few letters.
-/
import Derived.Test.YtjblefcdihmdbaaDoorStrsSame
import Derived.Test.YtjblefcdihmdbaaDoorQ1
import Derived.Test.YtjblefcdihmdbaaDoorOutTrack
import Derived.Lib.IndexAny
namespace Go.Proofs.YtjblefcdihmdbaaDoor.B
open Go.RowKit Go.Proofs.YtjblefcdihmdbaaDoor.Q Go.Proofs.YtjblefcdihmdbaaDoorW.PrintWords Go.Proofs.YtjblefcdihmdbaaDoorW.PrintLast

/-- The letters of a row. -/
def bl (s : ByteArray) : List UInt8 := s.data.toList
theorem bl_len (s : ByteArray) : (bl s).length = s.size := by
  unfold bl
  rw [Array.length_toList]
  rfl
theorem bt_mid {s : ByteArray} {p q : List UInt8} {b : UInt8} (h : bl s = p ++ b :: q) {j : Int} (hj : j = p.length) : bt s j = (b.toNat : Int) := by
  subst hj
  have hlen : p.length < s.size := by rw [← bl_len, h]; simp
  unfold bt
  rw [dif_pos (by simpa using hlen)]
  have e : s[(p.length : Int).toNat]'(by simpa using hlen) = b := by
    have h2 : (bl s)[p.length]? = some b := by rw [h]; simp
    have h3 : (bl s)[p.length]? = some (s[p.length]'hlen) := by
      unfold bl
      rw [Array.getElem?_toList]
      exact Array.getElem?_eq_getElem hlen
    rw [h3] at h2
    have := Option.some.inj h2
    simpa using this
  rw [e]
theorem byte_eq (b c : UInt8) (n : Nat) (hc : c.toNat = n) : ((b.toNat : Int) = (n : Int)) ↔ b = c := by
  constructor
  · intro h
    exact UInt8.toNat_inj.1 (by omega)
  · intro h
    subst h
    omega
def okB (b : UInt8) : Bool := b == 46 || b == 35 || b == 83 || b == 71
def scanRow : List UInt8 → Int → Int → Option (Int × Int)
  | [], s, g => some (s, g)
  | b :: q, s, g => if b = 46 ∨ b = 35 then scanRow q s g else if b = 83 then scanRow q (s + 1) g else if b = 71 then scanRow q s (g + 1) else none
def scan (n : Nat) : List ByteArray → Int → Int → Bool
  | [], s, g => decide (s = 1) && decide (g > 0)
  | r :: l, s, g => if r.size = n then (match scanRow (bl r) s g with | none => false | some z => scan n l z.1 z.2) else false
def n0 (l : List ByteArray) : Nat := (rdOf ByteArray.empty l 0).size
/-- Whether rows are a track. -/
def isT (l : List ByteArray) : Bool := decide (1 ≤ l.length ∧ l.length ≤ 16 ∧ 1 ≤ n0 l ∧ n0 l ≤ 16) && scan (n0 l) l 0 0

theorem specRow (l : List ByteArray) (i : Int) (row : ByteArray) (h0 : 0 ≤ i) (h1 : i < l.length) (hr : rdOf ByteArray.empty l i = row) (hi : i ≤ 1000) (hrow : row.size ≤ 1000) (q : List UInt8) : ∀ (p : List UInt8) (j s g : Int) (r : Bool), bl row = p ++ q → j = p.length → 0 ≤ s → s + q.length ≤ 1000000 → 0 ≤ g → g + q.length ≤ 1000000 →
    (match scanRow q s g with | none => r = false | some z => Ev (fun k => spec_l08Is.l0 k l z.1 z.2 (i + 1)) r) → Ev (fun k => spec_l08Is.l1 k l s g i j) r := by
  induction q with
  | nil =>
    intro p j s g r hp hj hs0 hs1 hg0 hg1 h
    have hlen : p.length = row.size := by rw [← bl_len, hp]; simp
    refine evSucc (fun k => by rw [spec_l08Is.l1]) ?_
    refine evT h0 (evT h1 (evF (by rw [hr]; omega) ?_))
    rw [wrap_in (x := i + 1) (by omega) (by omega)]
    exact h
  | cons b q ih =>
    intro p j s g r hp hj hs0 hs1 hg0 hg1 h
    simp only [List.length_cons] at hs1 hg1
    have hlen : p.length < row.size := by rw [← bl_len, hp]; simp
    have hb : bt (rdOf ByteArray.empty l i) j = (b.toNat : Int) := by rw [hr]; exact bt_mid hp hj
    have hp2 : bl row = (p ++ [b]) ++ q := by rw [hp]; simp
    have hj2 : j + 1 = ((p ++ [b]).length : Int) := by simp; omega
    refine evSucc (fun k => by rw [spec_l08Is.l1]) ?_
    refine evT h0 (evT h1 (evT (by rw [hr]; omega) (evT (by omega) ?_)))
    rw [hb]
    simp only [scanRow] at h
    by_cases c1 : b = 46
    · rw [if_pos (Or.inl c1)] at h
      refine evT ((byte_eq b 46 46 rfl).2 c1) ?_
      refine evSucc (fun k => by rw [spec_l08Is.j3]) ?_
      rw [show ((b.toNat : Int) == 46) = true from beq_iff_eq.2 ((byte_eq b 46 46 rfl).2 c1), wrap_in (x := j + 1) (by omega) (by omega)]
      exact evT rfl (ih (p ++ [b]) (j + 1) s g r hp2 hj2 hs0 (by omega) hg0 (by omega) h)
    · refine evF (fun e => c1 ((byte_eq b 46 46 rfl).1 e)) ?_
      refine evSucc (fun k => by rw [spec_l08Is.j3]) ?_
      rw [wrap_in (x := j + 1) (by omega) (by omega)]
      by_cases c2 : b = 35
      · rw [if_pos (Or.inr c2)] at h
        rw [show ((b.toNat : Int) == 35) = true from beq_iff_eq.2 ((byte_eq b 35 35 rfl).2 c2)]
        exact evT rfl (ih (p ++ [b]) (j + 1) s g r hp2 hj2 hs0 (by omega) hg0 (by omega) h)
      · rw [if_neg (by rintro (e | e) <;> contradiction)] at h
        rw [show ((b.toNat : Int) == 35) = false from beq_eq_false_iff_ne.2 (fun e => c2 ((byte_eq b 35 35 rfl).1 e))]
        refine evF (by simp) ?_
        by_cases c3 : b = 83
        · rw [if_pos c3] at h
          refine evT ((byte_eq b 83 83 rfl).2 c3) ?_
          rw [wrap_in (x := s + 1) (by omega) (by omega)]
          exact ih (p ++ [b]) (j + 1) (s + 1) g r hp2 hj2 (by omega) (by omega) hg0 (by omega) h
        · rw [if_neg c3] at h
          refine evF (fun e => c3 ((byte_eq b 83 83 rfl).1 e)) ?_
          by_cases c4 : b = 71
          · rw [if_pos c4] at h
            refine evT ((byte_eq b 71 71 rfl).2 c4) ?_
            rw [wrap_in (x := g + 1) (by omega) (by omega)]
            exact ih (p ++ [b]) (j + 1) s (g + 1) r hp2 hj2 hs0 (by omega) (by omega) (by omega) h
          · rw [if_neg c4] at h
            refine evF (fun e => c4 ((byte_eq b 71 71 rfl).1 e)) ?_
            rw [h]
            exact evS _
theorem scanRow_le (q : List UInt8) : ∀ (s g : Int) (z : Int × Int), scanRow q s g = some z → s ≤ z.1 ∧ z.1 ≤ s + q.length ∧ g ≤ z.2 ∧ z.2 ≤ g + q.length := by
  induction q with
  | nil => intro s g z h; simp [scanRow] at h; subst h; simp
  | cons b q ih =>
    intro s g z h
    simp only [scanRow] at h
    simp only [List.length_cons]
    split at h
    · have := ih _ _ _ h; omega
    · split at h
      · have := ih _ _ _ h; omega
      · split at h
        · have := ih _ _ _ h; omega
        · cases h
theorem specScan (l : List ByteArray) (hl : l.length ≤ 16) (hn : n0 l ≤ 16) (rest : List ByteArray) : ∀ (pre : List ByteArray) (i s g : Int), l = pre ++ rest → i = pre.length → 0 ≤ s → s + 16 * rest.length ≤ 100000 → 0 ≤ g → g + 16 * rest.length ≤ 100000 →
    Ev (fun k => spec_l08Is.l0 k l s g i) (scan (n0 l) rest s g) := by
  induction rest with
  | nil =>
    intro pre i s g hp hi hs0 hs1 hg0 hg1
    refine evSucc (fun k => by rw [spec_l08Is.l0]) ?_
    refine evF (by rw [hp]; simp; omega) ?_
    simp only [scan]
    by_cases c : s = 1
    · exact evT c (evE (by simp [c]) (evS _))
    · exact evF c (evE (by simp [c]) (evS _))
  | cons x rest ih =>
    intro pre i s g hp hi hs0 hs1 hg0 hg1
    simp only [List.length_cons] at hs1 hg1
    have hx : rdOf ByteArray.empty l i = x := by rw [hp]; exact rd_mid pre x rest i hi
    have hlt : i < (l.length : Int) := by rw [hp, hi]; simp; omega
    refine evSucc (fun k => by rw [spec_l08Is.l0]) ?_
    refine evT hlt (evT (by omega) (evT (by omega) ?_))
    simp only [scan]
    by_cases c : x.size = n0 l
    · refine evT (by rw [hx]; show (x.size : Int) = (n0 l : Int); omega) ?_
      rw [if_pos c]
      refine specRow l i x (by omega) hlt hx (by omega) (by omega) (bl x) [] 0 s g _ rfl rfl hs0 (by rw [bl_len]; omega) hg0 (by rw [bl_len]; omega) ?_
      cases hz : scanRow (bl x) s g with
      | none => rfl
      | some z =>
        have hb := scanRow_le _ _ _ _ hz
        rw [bl_len] at hb
        exact ih (pre ++ [x]) (i + 1) z.1 z.2 (by rw [hp]; simp) (by simp; omega) (by omega) (by omega) (by omega) (by omega)
    · refine evF (by rw [hx]; show ¬ (x.size : Int) = (n0 l : Int); omega) ?_
      rw [if_neg c]
      exact evS _
theorem track_spec (l : List ByteArray) : Ev (fun k => spec_l08Is.f k l) (isT l) := by
  have hj0 : ∀ l' : List ByteArray, Ev (fun k => spec_l08Is.j0 k l' true) false := fun l' => evSucc (fun k => by rw [spec_l08Is.j0]) (evT rfl (evS _))
  unfold spec_l08Is.f isT
  by_cases c1 : 1 ≤ l.length
  · refine evF (by omega) ?_
    by_cases c2 : l.length ≤ 16
    · refine evF (by omega) (evT (by omega) ?_)
      by_cases c3 : 1 ≤ n0 l
      · refine evF (by show ¬ (n0 l : Int) < 1; omega) ?_
        refine evSucc (fun k => by rw [spec_l08Is.j0]) ?_
        by_cases c4 : n0 l ≤ 16
        · refine evF (by show ¬ decide ((n0 l : Int) > 16) = true; simp; omega) ?_
          rw [decide_eq_true ⟨c1, c2, c3, c4⟩]
          exact specScan l c2 c4 l [] 0 0 0 rfl rfl (by omega) (by omega) (by omega) (by omega)
        · refine evT (by show decide ((n0 l : Int) > 16) = true; simp; omega) ?_
          rw [decide_eq_false (by omega)]
          exact evS _
      · refine evT (by show (n0 l : Int) < 1; omega) ?_
        rw [decide_eq_false (by omega)]
        exact hj0 l
    · refine evT (by omega) ?_
      rw [decide_eq_false (by omega)]
      exact hj0 l
  · refine evT (by omega) ?_
    rw [decide_eq_false (by omega)]
    exact hj0 l
end Go.Proofs.YtjblefcdihmdbaaDoor.B
