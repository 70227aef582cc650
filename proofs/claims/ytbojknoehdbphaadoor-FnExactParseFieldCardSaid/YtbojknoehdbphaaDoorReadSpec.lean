/-
  Plain: what the reference reads out of a text: whatever the text, a field of which it then asks the text; and of a field's text the field. Texts of at most 1,000,000,000 letters.
-/
import Derived.Test.YtbojknoehdbphaaDoorTextForm
import Derived.Test.YtbojknoehdbphaaDoorQ3
namespace Go.Proofs.YtbojknoehdbphaaDoor.B
open Go.RowKit Go.Proofs.YtbojknoehdbphaaDoor.Q Go.Proofs.YtbojknoehdbphaaDoorW.PrintWords Go.Proofs.YtbojknoehdbphaaDoorW.PrintLast Go.Proofs.YtbojknoehdbphaaDoorW.PrintMore

def tri (n : Nat) : Nat := n * (n - 1) / 2
theorem tri_succ (n : Nat) : tri (n + 1) = tri n + n := by
  unfold tri
  cases n with
  | zero => rfl
  | succ m =>
    rw [Nat.add_sub_cancel, Nat.add_sub_cancel]
    have h : (m + 1 + 1) * (m + 1) = (m + 1) * m + 2 * (m + 1) := by
      rw [show m + 1 + 1 = m + 2 by omega, Nat.add_mul]
      rw [Nat.mul_comm m (m + 1), Nat.mul_comm 2 (m + 1)]
    rw [h]
    omega
theorem trI_nat (j : Nat) (h : j ≤ 16) : trI (j : Int) = (tri j : Int) := by
  have hd : ∀ m : Fin 17, trI ((m.val : Nat) : Int) = (tri m.val : Int) := by decide +kernel
  exact hd ⟨j, by omega⟩
theorem tri_le (j : Nat) (h : j ≤ 8) : tri j ≤ 28 := by
  have hd : ∀ m : Fin 9, tri m.val ≤ 28 := by decide +kernel
  exact hd ⟨j, by omega⟩
theorem shl_nat (i : Nat) (h : i ≤ 60) : shl .i64 1 (i : Int) = ((2 ^ i : Nat) : Int) := by
  have hd : ∀ m : Fin 61, shl .i64 1 ((m.val : Nat) : Int) = ((2 ^ m.val : Nat) : Int) := by decide +kernel
  exact hd ⟨i, by omega⟩
theorem or_step (x i : Nat) (hx : x < 2 ^ 61) (hi : i ≤ 60) : Go.bits .or .i64 (x : Int) (shl .i64 1 (i : Int)) = ((x ||| 2 ^ i : Nat) : Int) := by
  rw [shl_nat i hi]
  exact or_nat x (2 ^ i) (Nat.lt_trans hx (by decide)) (Nat.lt_of_le_of_lt (Nat.pow_le_pow_right (by decide) hi) (by decide))
theorem lt61 {x n : Nat} (h : x < 2 ^ n) (hn : n ≤ 61) : x < 2 ^ 61 := Nat.lt_of_lt_of_le h (Nat.pow_le_pow_right (by decide) hn)
/-- A letter of a list. -/
def lt_ (r : List UInt8) (i : Nat) : UInt8 := r.getD i 0
theorem bt_lt (r : List UInt8) (i : Nat) (h : i < r.length) : bt (BA r) (i : Int) = ((lt_ r i).toNat : Int) := by
  rw [bt_BA r i (by omega) (by omega)]
  unfold lt_
  rw [List.getD_eq_getElem?_getD, List.getElem?_eq_getElem h]
  simp
theorem toNat_iff (c : UInt8) (n : Nat) (d : UInt8) (h : d.toNat = n) : ((c.toNat : Nat) : Int) = (n : Int) ↔ c = d := by
  constructor
  · intro e
    exact UInt8.toNat_inj.1 (by omega)
  · rintro rfl
    omega
def rowAt (rs : List (List UInt8)) (j : Nat) : List UInt8 := rs.getD j []
theorem rdOf_row (rs : List (List UInt8)) (j : Nat) (h : j < rs.length) : rdOf ByteArray.empty (rs.map BA) (j : Int) = BA (rowAt rs j) := by
  unfold rdOf rowAt
  rw [show ((j : Nat) : Int).toNat = j by omega, List.getD_eq_getElem?_getD, List.getD_eq_getElem?_getD, List.getElem?_map, List.getElem?_eq_getElem h]
  rfl
section
variable {rs : List (List UInt8)} {s : ByteArray}
theorem read0 (hn : 1 ≤ rs.length ∧ rs.length ≤ 8) (h0 : (rowAt rs 0).length = rs.length) (I : Nat → Nat → Nat → Prop) (hsm : ∀ i R B, I i R B → R < 2 ^ 61 ∧ B < 2 ^ 61)
    (hst : ∀ i R B, i < rs.length → I i R B → (lt_ (rowAt rs 0) i = 114 → I (i + 1) (R ||| 2 ^ i) B) ∧ (lt_ (rowAt rs 0) i ≠ 114 → lt_ (rowAt rs 0) i = 98 → I (i + 1) R (B ||| 2 ^ i)) ∧ (lt_ (rowAt rs 0) i ≠ 114 → lt_ (rowAt rs 0) i ≠ 98 → I (i + 1) R B)) (d : Nat) :
    ∀ (i R B : Nat), i + d = rs.length → I i R B → ∃ R' B', I rs.length R' B' ∧ ∀ res, Ev (fun k => spec_l05Read.l1 k s (rs.map BA) 1 (rs.length : Int) 0 (R' : Int) (B' : Int)) res → Ev (fun k => spec_l05Read.l0 k s (rs.map BA) (i : Int) (rs.length : Int) 0 (R : Int) (B : Int)) res := by
  induction d with
  | zero =>
    intro i R B hi hI
    refine ⟨R, B, by rw [← hi]; exact hI, fun res hE => ?_⟩
    refine evSucc (fun k => by rw [spec_l05Read.l0]) ?_
    rw [List.length_map]
    exact evF (by omega) hE
  | succ d ih =>
    intro i R B hi hI
    have hlt : i < rs.length := by omega
    have hw : wrap64 ((i : Int) + 1) = ((i + 1 : Nat) : Int) := by rw [wrap_in (by omega) (by omega)]; omega
    have hu : IntKind.u64.wrap (i : Int) = i := u64_at _ (by omega) (by omega)
    have hr0 := rdOf_row rs 0 (by omega)
    have hr0' : rdOf ByteArray.empty (rs.map BA) 0 = BA (rowAt rs 0) := hr0
    have hbt := bt_lt (rowAt rs 0) i (by omega)
    obtain ⟨t1, t2, t3⟩ := hst i R B hlt hI
    have hs := hsm i R B hI
    have walk : ∀ res, Ev (fun k => if ((lt_ (rowAt rs 0) i).toNat : Int) = 114 then (if 0 ≤ (i : Int) then (spec_l05Read.l0 k s (rs.map BA) ((i + 1 : Nat) : Int) (rs.length : Int) 0 (Go.bits .or .i64 (R : Int) (shl .i64 1 (i : Int))) (B : Int)) else none) else (if ((lt_ (rowAt rs 0) i).toNat : Int) = 98 then (if 0 ≤ (i : Int) then (spec_l05Read.l0 k s (rs.map BA) ((i + 1 : Nat) : Int) (rs.length : Int) 0 (R : Int) (Go.bits .or .i64 (B : Int) (shl .i64 1 (i : Int)))) else none) else (spec_l05Read.l0 k s (rs.map BA) ((i + 1 : Nat) : Int) (rs.length : Int) 0 (R : Int) (B : Int)))) res →
        Ev (fun k => spec_l05Read.l0 k s (rs.map BA) (i : Int) (rs.length : Int) 0 (R : Int) (B : Int)) res := by
      intro res hE
      refine evSucc (fun k => by rw [spec_l05Read.l0, hu, hw, hr0', hbt]) ?_
      rw [List.length_map, BA_size, h0]
      exact evT (by omega) (evT (by omega) (evT (by omega) (evT (by omega) hE)))
    by_cases c1 : lt_ (rowAt rs 0) i = 114
    · obtain ⟨R', B', g1, g2⟩ := ih (i + 1) (R ||| 2 ^ i) B (by omega) (t1 c1)
      refine ⟨R', B', g1, fun res hE => walk res (evT ((toNat_iff _ 114 114 rfl).2 c1) (evT (by omega) ?_))⟩
      rw [or_step R i hs.1 (by omega)]
      exact g2 res hE
    · by_cases c2 : lt_ (rowAt rs 0) i = 98
      · obtain ⟨R', B', g1, g2⟩ := ih (i + 1) R (B ||| 2 ^ i) (by omega) (t2 c1 c2)
        refine ⟨R', B', g1, fun res hE => walk res (evF (fun h => c1 ((toNat_iff _ 114 114 rfl).1 h)) (evT ((toNat_iff _ 98 98 rfl).2 c2) (evT (by omega) ?_)))⟩
        rw [or_step B i hs.2 (by omega)]
        exact g2 res hE
      · obtain ⟨R', B', g1, g2⟩ := ih (i + 1) R B (by omega) (t3 c1 c2)
        exact ⟨R', B', g1, fun res hE => walk res (evF (fun h => c1 ((toNat_iff _ 114 114 rfl).1 h)) (evF (fun h => c2 ((toNat_iff _ 98 98 rfl).1 h)) (g2 res hE)))⟩
theorem read2 (hn : 1 ≤ rs.length ∧ rs.length ≤ 8) (j : Nat) (hj : 1 ≤ j ∧ j < rs.length) (hl : (rowAt rs j).length = j) (R B : Int) (I : Nat → Nat → Prop) (hsm : ∀ i L, I i L → L < 2 ^ 61)
    (hst : ∀ i L, i < j → I (tri j + i) L → (lt_ (rowAt rs j) i = 49 → I (tri j + i + 1) (L ||| 2 ^ (tri j + i))) ∧ (lt_ (rowAt rs j) i ≠ 49 → I (tri j + i + 1) L)) (d : Nat) :
    ∀ (i L : Nat), i + d = j → I (tri j + i) L → ∃ L' : Nat, I (tri j + j) L' ∧ ∀ res, Ev (fun k => spec_l05Read.l1 k s (rs.map BA) ((j + 1 : Nat) : Int) (rs.length : Int) (L' : Int) R B) res → Ev (fun k => spec_l05Read.l2 k s (rs.map BA) (j : Int) (i : Int) (rs.length : Int) (L : Int) R B) res := by
  have hjw : wrap64 ((j : Int) + 1) = ((j + 1 : Nat) : Int) := by rw [wrap_in (by omega) (by omega)]; omega
  have htj := tri_le j (by omega)
  induction d with
  | zero =>
    intro i L hi hI
    refine ⟨L, by have e : i = j := (by omega); rw [e] at hI; exact hI, fun res hE => ?_⟩
    refine evSucc (fun k => by rw [spec_l05Read.l2]) ?_
    refine evF (by omega) (evSucc (fun k => by rw [spec_l05Read.j4, hjw]) ?_)
    exact evF (by decide) hE
  | succ d ih =>
    intro i L hi hI
    have hlt : i < j := by omega
    have hw : wrap64 ((i : Int) + 1) = ((i + 1 : Nat) : Int) := by rw [wrap_in (by omega) (by omega)]; omega
    have hrj := rdOf_row rs j (by omega)
    have hbt := bt_lt (rowAt rs j) i (by omega)
    have hpos : wrap64 ((wrap64 (Int.tdiv (wrap64 ((j : Int) * (wrap64 ((j : Int) - 1)))) 2)) + (i : Int)) = ((tri j + i : Nat) : Int) := by
      have := trI_nat j (by omega)
      unfold trI at this
      rw [this, wrap_in (by omega) (by omega)]
      omega
    have hu : IntKind.u64.wrap ((tri j + i : Nat) : Int) = ((tri j + i : Nat) : Int) := u64_at _ (by omega) (by omega)
    obtain ⟨t1, t2⟩ := hst i L hlt hI
    have hs := hsm _ L hI
    have walk : ∀ res, Ev (fun k => if ((lt_ (rowAt rs j) i).toNat : Int) = 49 then (if 0 ≤ ((tri j + i : Nat) : Int) then (spec_l05Read.l2 k s (rs.map BA) (j : Int) ((i + 1 : Nat) : Int) (rs.length : Int) (Go.bits .or .i64 (L : Int) (shl .i64 1 ((tri j + i : Nat) : Int))) R B) else none) else (spec_l05Read.l2 k s (rs.map BA) (j : Int) ((i + 1 : Nat) : Int) (rs.length : Int) (L : Int) R B)) res →
        Ev (fun k => spec_l05Read.l2 k s (rs.map BA) (j : Int) (i : Int) (rs.length : Int) (L : Int) R B) res := by
      intro res hE
      refine evSucc (fun k => by rw [spec_l05Read.l2, hrj]) ?_
      rw [List.length_map, BA_size, hl, beq_self_eq_true]
      refine evT (by omega) (evT (by omega) (evT (by omega) (evSucc (fun k => by rw [spec_l05Read.j4, hrj, hbt, hpos, hu, hw]) ?_)))
      rw [List.length_map, BA_size, hl]
      exact evT rfl (evT (by omega) (evT (by omega) (evT (by omega) (evT (by omega) hE))))
    by_cases c1 : lt_ (rowAt rs j) i = 49
    · obtain ⟨L', g1, g2⟩ := ih (i + 1) (L ||| 2 ^ (tri j + i)) (by omega) (by rw [← Nat.add_assoc]; exact t1 c1)
      refine ⟨L', g1, fun res hE => walk res (evT ((toNat_iff _ 49 49 rfl).2 c1) (evT (by omega) ?_))⟩
      rw [or_step L (tri j + i) hs (by omega)]
      exact g2 res hE
    · obtain ⟨L', g1, g2⟩ := ih (i + 1) L (by omega) (by rw [← Nat.add_assoc]; exact t2 c1)
      exact ⟨L', g1, fun res hE => walk res (evF (fun h => c1 ((toNat_iff _ 49 49 rfl).1 h)) (g2 res hE))⟩
theorem read1 (hn : 1 ≤ rs.length ∧ rs.length ≤ 8) (R B : Int) (I : Nat → Nat → Prop) (hsm : ∀ i L, I i L → L < 2 ^ 61)
    (hst : ∀ j, 1 ≤ j → j < rs.length → (rowAt rs j).length = j → ∀ i L, i < j → I (tri j + i) L → (lt_ (rowAt rs j) i = 49 → I (tri j + i + 1) (L ||| 2 ^ (tri j + i))) ∧ (lt_ (rowAt rs j) i ≠ 49 → I (tri j + i + 1) L))
    (hsk : ∀ j L, 1 ≤ j → j < rs.length → (rowAt rs j).length ≠ j → I (tri j) L → I (tri (j + 1)) L) (d : Nat) :
    ∀ (j L : Nat), 1 ≤ j → j + d = rs.length → I (tri j) L → ∃ L' : Nat, I (tri rs.length) L' ∧ ∀ res, Ev (fun k => (spec_l05Text.f k (rs.length : Int) (L' : Int) R B).bind fun t => some ((rs.length : Int), (L' : Int), R, B, (t.toList == s.toList))) res → Ev (fun k => spec_l05Read.l1 k s (rs.map BA) (j : Int) (rs.length : Int) (L : Int) R B) res := by
  induction d with
  | zero =>
    intro j L h1 hj hI
    refine ⟨L, by rw [← hj]; exact hI, fun res hE => ?_⟩
    refine evSucc (fun k => by rw [spec_l05Read.l1]) ?_
    rw [List.length_map]
    exact evF (by omega) hE
  | succ d ih =>
    intro j L h1 hj hI
    have hjw : wrap64 ((j : Int) + 1) = ((j + 1 : Nat) : Int) := by rw [wrap_in (by omega) (by omega)]; omega
    by_cases hl : (rowAt rs j).length = j
    · obtain ⟨L1, g1, g2⟩ := read2 (s := s) hn j ⟨h1, by omega⟩ hl R B I hsm (hst j h1 (by omega) hl) j 0 L (by omega) (by simpa using hI)
      obtain ⟨L', g3, g4⟩ := ih (j + 1) L1 (by omega) (by omega) (by rw [tri_succ]; exact g1)
      refine ⟨L', g3, fun res hE => ?_⟩
      refine evSucc (fun k => by rw [spec_l05Read.l1]) ?_
      rw [List.length_map]
      exact evT (by omega) (g2 res (g4 res hE))
    · obtain ⟨L', g3, g4⟩ := ih (j + 1) L (by omega) (by omega) (hsk j L h1 (by omega) hl hI)
      refine ⟨L', g3, fun res hE => ?_⟩
      have hrj := rdOf_row rs j (by omega)
      have hfl : (((rowAt rs j).length : Int) == (j : Int)) = false := beq_eq_false_iff_ne.mpr (by omega)
      refine evSucc (fun k => by rw [spec_l05Read.l1]) ?_
      rw [List.length_map]
      refine evT (by omega) (evSucc (fun k => by rw [spec_l05Read.l2, hrj]) ?_)
      rw [List.length_map, BA_size, hfl]
      refine evT (by omega) (evT (by omega) (evT (by omega) (evSucc (fun k => by rw [spec_l05Read.j4, hjw]) ?_)))
      exact evF (by decide) (g4 res hE)
end
end Go.Proofs.YtbojknoehdbphaaDoor.B
