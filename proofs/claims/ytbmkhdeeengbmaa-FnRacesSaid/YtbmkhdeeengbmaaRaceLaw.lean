/-
  Races: the codes of states; program and reference come to the same. Boards of at most 1,048,576 lines.
-/
import Derived.Test.YtbmkhdeeengbmaaRaceP
import Derived.Test.YtbmkhdeeengbmaaBoard
import Derived.Test.YtbmkhdeeengbmaaRaceNet
import Derived.Test.YtbmkhdeeengbmaaQ4
namespace Go.Proofs.Ytbmkhdeeengbmaa.B
open Go.RowKit Go.Proofs.Ytbmkhdeeengbmaa.Q Go.Proofs.YtbmkhdeeengbmaaW.PrintWords Go.Proofs.YtbmkhdeeengbmaaW.PrintLast Go.Proofs.YtbmkhdeeengbmaaW.PrintMore

theorem full_free (n : Int) (hn : 1 ≤ n ∧ n ≤ 16) (a b : Nat) (h : Two n.toNat a b) : Go.bits .or .i64 (a : Int) (b : Int) = full n ↔ freeN n a b = [] := by
  have k62 : (2 : Nat) ^ 62 = 4611686018427387904 := by decide
  obtain ⟨ha, hb⟩ := h.le16 (by omega)
  have hp := Nat.one_le_two_pow (n := n.toNat)
  rw [or_nat a b (by omega) (by omega)]
  have e : ((a ||| b : Nat) : Int) = full n ↔ a ||| b = 2 ^ n.toNat - 1 := by
    unfold full
    generalize 2 ^ n.toNat = m at hp ⊢
    omega
  rw [e, freeN_nil]
  constructor
  · intro g
    rcases Nat.eq_zero_or_pos (fr a b n.toNat) with c | c
    · exact c
    · exfalso
      have hne : freeN n a b ≠ [] := fun z => by rw [freeN_nil.1 z] at c; omega
      obtain ⟨p, hp2⟩ := List.exists_mem_of_ne_nil _ hne
      obtain ⟨h0, h1, h2⟩ := (mem_freeN p).1 hp2
      have hz := (dg_zero a b p.toNat).1 h2
      have ht : (a ||| b).testBit p.toNat = true := by rw [g, Nat.testBit_two_pow_sub_one]; simp; omega
      rw [Nat.testBit_or, hz.1, hz.2] at ht
      cases ht
  · intro g
    refine Nat.eq_of_testBit_eq (fun i => ?_)
    rw [Nat.testBit_or, Nat.testBit_two_pow_sub_one]
    by_cases hi : i < n.toNat
    · have hd := fr_none a b n.toNat g i hi
      rw [decide_eq_true hi]
      cases ha2 : a.testBit i <;> cases hb2 : b.testBit i <;> simp
      exact absurd ((dg_zero a b i).2 ⟨ha2, hb2⟩) hd
    · rw [bit_ge n.toNat a i h.1 (by omega), bit_ge n.toNat b i h.2.1 (by omega), decide_eq_false hi]
      rfl
/-- The codes: both come to the same, and 0 says what a race may ask for. -/
theorem codes (n : Int) (L : List Int) (p q : Int) (hm : L.length ≤ 1048576) : (∃ c : Int, c ≠ 0 ∧ Ev (fun k => spec_l07Running.f k n L p q) c ∧ Ev (fun k => impl_raceCode.f k n L p q) c) ∨
    ∃ a b : Nat, p = a ∧ q = b ∧ boardB n L = true ∧ n ≤ 9 ∧ okS n (a, b) ∧ freeN n a b ≠ [] ∧ fl L a = false ∧ fl L b = false ∧ Ev (fun k => spec_l07Running.f k n L p q) 0 ∧ Ev (fun k => impl_raceCode.f k n L p q) 0 := by
  have h1 := sets_spec n L p q hm
  have h2 := sets_impl n L p q hm
  unfold spec_l07Running.f impl_raceCode.f impl_stateCode.f
  have j5 : ∀ c : Int, c ≠ 0 → Ev (fun k => spec_l07Running.j0 k c false n L) c := fun c hc => by
    refine evSucc (fun k => by rw [spec_l07Running.j0]) ?_
    exact evF (by simp) (evF hc (evS _))
  have jt : Ev (fun k => spec_l07Running.j0 k 0 true n L) 5 := by
    refine evSucc (fun k => by rw [spec_l07Running.j0]) ?_
    exact evT rfl (evS _)
  by_cases c : setsC n L p q = 0
  · obtain ⟨c0, c1, c2, c3⟩ := setsC_zero n L p q c
    obtain ⟨b1, b2, b3⟩ := (boardB_iff n L).1 c0
    rw [if_pos c] at h1
    have hst := state_impl p q (by omega) (by omega)
    cases hs : stateB p q with
    | false =>
      rw [hs] at h1 hst
      refine .inl ⟨5, by decide, evB h1 (evF (by decide) (j5 5 (by decide))), evB (evB h2 (evT c (evG hst (evB (first_one false 5) (evS _))))) (evF (by decide) (evS _))⟩
    | true =>
      rw [hs, if_pos rfl] at h1
      rw [hs] at hst
      have hsc : Ev (fun k => impl_stateCode.f k n L p q) 0 := by
        unfold impl_stateCode.f
        exact evB h2 (evT c (evG hst (evB (first_one true 5) (evS _))))
      unfold impl_stateCode.f at hsc
      obtain ⟨a, rfl⟩ := Int.eq_ofNat_of_zero_le c1.1
      obtain ⟨b, rfl⟩ := Int.eq_ofNat_of_zero_le c2.1
      have k62 : (2 : Nat) ^ 62 = 4611686018427387904 := by decide
      obtain ⟨f1, f2, f3, f4, f5⟩ := full_shl n b1
      have hok : okS n (a, b) := by
        unfold stateB popI at hs
        rw [and_nat a b (by omega) (by omega), Bool.and_eq_true, decide_eq_true_eq, decide_eq_true_eq, Int.toNat_natCast, Int.toNat_natCast] at hs
        have e1 : a < 2 ^ n.toNat ∧ b < 2 ^ n.toNat := by
          have c1' := c1.2
          have c2' := c2.2
          unfold full at c1' c2'
          generalize 2 ^ n.toNat = m at c1' c2' ⊢
          omega
        exact ⟨two_of_and _ a b e1.1 e1.2 (by omega), by show pop a = pop b ∨ pop a = pop b + 1; omega⟩
      have hfa := filled_impl n L a c0 (by omega) (by omega)
      have hfb := filled_impl n L b c0 (by omega) (by omega)
      have ha := fills_spec c0 a
      have hb := fills_spec c0 b
      have hfree := free_impl n L b1 a b hok.1
      cases ea : fl L a with
      | true =>
        have na : ¬ fillF L a L.length 0 = 0 := fun z => by unfold fl at ea; rw [z] at ea; cases ea
        rw [ea] at ha
        refine .inl ⟨5, by decide, evB h1 (evT rfl (evB ha (evT rfl jt))), evB hsc (evT rfl (evB hfa (evF na (evB (first_two _ _ _ _) (evE ?_ (evS _))))))⟩
        rfl
      | false =>
        have na : fillF L a L.length 0 = 0 := by unfold fl at ea; simpa using ea
        rw [ea] at ha
        cases eb : fl L b with
        | true =>
          have nb : ¬ fillF L b L.length 0 = 0 := fun z => by unfold fl at eb; rw [z] at eb; cases eb
          rw [eb] at hb
          refine .inl ⟨5, by decide, evB h1 (evT rfl (evB ha (evF (by simp) (evB hb (evT rfl jt))))), evB hsc (evT rfl (evB hfa (evT na (evB hfb (evF nb (evB (first_two _ _ _ _) (evE ?_ (evS _))))))))⟩
          rfl
        | false =>
          have nb : fillF L b L.length 0 = 0 := by unfold fl at eb; simpa using eb
          rw [eb] at hb
          have hff := full_free n b1 a b hok.1
          by_cases ef : freeN n a b = []
          · have hq : (Go.bits .or .i64 (a : Int) (b : Int) == wrap64 ((shl .i64 1 (IntKind.u64.wrap n)) - 1)) = true := by
              rw [f4, f1]
              simpa using hff.2 ef
            refine .inl ⟨5, by decide, evB h1 (evT rfl (evB ha (evF (by simp) (evB hb (evF (by simp) (evT (by omega) (by rw [hq]; exact jt))))))), evB hsc (evT rfl (evB hfa (evT na (evB hfb (evT nb (evG hfree (evB (first_two _ _ _ _) (evE ?_ (evS _)))))))))⟩
            rw [ef]
            rfl
          · have hq : (Go.bits .or .i64 (a : Int) (b : Int) == wrap64 ((shl .i64 1 (IntKind.u64.wrap n)) - 1)) = false := by
              rw [f4, f1]
              simpa using fun z => ef (hff.1 z)
            by_cases e9 : n ≤ 9
            · refine .inr ⟨a, b, rfl, rfl, c0, e9, hok, ef, ea, eb, evB h1 (evT rfl (evB ha (evF (by simp) (evB hb (evF (by simp) (evT (by omega) (by
                rw [hq]
                refine evSucc (fun k => by rw [spec_l07Running.j0]) ?_
                exact evF (by simp) (evT rfl (evF (by omega) (evS _)))))))))), evB hsc (evT rfl (evB hfa (evT na (evB hfb (evT nb (evG hfree (evB (first_two _ _ _ _) (evE ?_ (evS _)))))))))⟩
              simp [ef, e9]
            · refine .inl ⟨3, by decide, evB h1 (evT rfl (evB ha (evF (by simp) (evB hb (evF (by simp) (evT (by omega) (by
                rw [hq]
                refine evSucc (fun k => by rw [spec_l07Running.j0]) ?_
                exact evF (by simp) (evT rfl (evT (by omega) (evS _)))))))))), evB hsc (evT rfl (evB hfa (evT na (evB hfb (evT nb (evG hfree (evB (first_two _ _ _ _) (evE ?_ (evS _)))))))))⟩
              simp [ef, e9]
  · rw [if_neg c] at h1
    exact .inl ⟨setsC n L p q, c, evB h1 (evF c (j5 _ c)), evB (evB h2 (evF c (evS _))) (evF c (evS _))⟩
theorem raceOf_eq (a b : Nat) (ha : a < 65536) (hb : b < 65536) : impl_raceOf.f a b = some ((((sd a b).1 : Nat) : Int), (((sd a b).2 : Nat) : Int)) := by
  unfold impl_raceOf.f sd
  rw [many_eq a (by omega) (by omega), many_eq b (by omega) (by omega)]
  simp only [Option.bind_some]
  unfold popI
  rw [Int.toNat_natCast, Int.toNat_natCast]
  by_cases c : pop a = pop b
  · rw [if_pos c, if_pos (by omega)]
  · rw [if_neg c, if_neg (by omega)]
end Go.Proofs.Ytbmkhdeeengbmaa.B
