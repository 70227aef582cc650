/-
  Races: program and reference answer alike, whatever the arguments are (out of the exact laws' pure statements), with what the great law asks of the answers. Boards of at most 1,048,576 lines.
-/
import Derived.Test.YtbmkhdeeengbmaaRaceDefs
import Derived.Test.YtbmkhdeeengbmaaRaceEnd
import Derived.Test.YtbmkhdeeengbmaaRaceLaw
import Derived.Test.YtbmkhdeeengbmaaRacePlayLaw
import Derived.Test.YtbmkhdeeengbmaaBoard
namespace Go.Proofs.Ytbmkhdeeengbmaa.B
open Go.RowKit Go.Proofs.Ytbmkhdeeengbmaa.Q Go.Proofs.YtbmkhdeeengbmaaW.PrintWords Go.Proofs.YtbmkhdeeengbmaaW.PrintLast Go.Proofs.YtbmkhdeeengbmaaW.PrintMore

def endF (L : List Int) (a b : Int) : Int × Int × Int :=
  if fillF L a L.length 0 = 0 then if fillF L b L.length 0 = 0 then (0, 0, 4) else (1, fillF L b L.length 0, 0) else (0, fillF L a L.length 0, 0)
theorem spec_in (n : Int) (L : List Int) (p : Int) (s : Int) (hb : boardB n L = true) (x22 : List Int) (x23 x24 : Int) (r : Int × Int × Int)
    (hk : Ev (fun k => spec_FilledLine.l0 k x22 x23 (wrap64 (x24 + 1)) n L) r) (d : Nat) :
    ∀ i : Int, 0 ≤ i → (L.length : Int) = i + d → Ev (fun k => spec_FilledLine.l1 k p s i x22 x23 x24 n L) (if fillF L s d i = 0 then r else (p, fillF L s d i, 0)) := by
  obtain ⟨b1, b2, b3⟩ := (boardB_iff n L).1 hb
  induction d with
  | zero =>
    intro i h0 h1
    refine evSucc (fun k => by rw [spec_FilledLine.l1]) ?_
    exact evF (by omega) hk
  | succ d ih =>
    intro i h0 h1
    have g := b3 i h0 (by omega)
    refine evSucc (fun k => by rw [spec_FilledLine.l1]) ?_
    refine evT (by omega) (evT h0 ?_)
    by_cases c : Go.bits .and .i64 (rd L i) s = rd L i
    · have e : fillF L s (d + 1) i = rd L i := by simp only [fillF]; rw [if_pos c]
      refine evT c (evE ?_ (evS _))
      simp only [e]
      rw [if_neg (by omega)]
    · have e : fillF L s (d + 1) i = fillF L s d (i + 1) := by simp only [fillF]; rw [if_neg c]
      rw [wrap_in (x := i + 1) (by omega) (by omega)]
      refine evF c (evE ?_ (ih (i + 1) (by omega) (by omega)))
      simp only [e]
theorem spec_out (n : Int) (L : List Int) (a b : Int) (hb : boardB n L = true) : Ev (fun k => spec_FilledLine.l0 k [a, b] 2 0 n L) (endF L a b) := by
  unfold endF
  refine evSucc (fun k => by rw [spec_FilledLine.l0]) ?_
  refine evT (by omega) (evT (by omega) (evT (by simp) (spec_in n L 0 a hb [a, b] 2 0 _ ?_ L.length 0 (by omega) (by omega))))
  refine evSucc (fun k => by rw [spec_FilledLine.l0]) ?_
  rw [show wrap64 (0 + 1) = 1 by decide +kernel]
  refine evT (by omega) (evT (by omega) (evT (by simp) (spec_in n L 1 b hb [a, b] 2 1 _ ?_ L.length 0 (by omega) (by omega))))
  refine evSucc (fun k => by rw [spec_FilledLine.l0]) ?_
  rw [show wrap64 (1 + 1) = 2 by decide +kernel]
  exact evF (by omega) (evS _)
theorem impl_out (n : Int) (L : List Int) (a b : Int) (hb : boardB n L = true) (h0 : 0 ≤ a ∧ a ≤ 65535) (h1 : 0 ≤ b ∧ b ≤ 65535) : Ev (fun k => impl_FilledLine.l0 k [a, b] 2 0 n L) (endF L a b) := by
  have ha := filled_impl n L a hb h0.1 h0.2
  have hc := filled_impl n L b hb h1.1 h1.2
  unfold endF
  refine evSucc (fun k => by rw [impl_FilledLine.l0]) ?_
  refine evT (by omega) (evT (by omega) (evT (by simp) (evB ha ?_)))
  by_cases c : fillF L a L.length 0 = 0
  · rw [if_pos c]
    refine evT c ?_
    refine evSucc (fun k => by rw [impl_FilledLine.l0]) ?_
    rw [show wrap64 (0 + 1) = 1 by decide +kernel]
    refine evT (by omega) (evT (by omega) (evT (by simp) (evB hc ?_)))
    by_cases e : fillF L b L.length 0 = 0
    · rw [if_pos e]
      refine evT e ?_
      refine evSucc (fun k => by rw [impl_FilledLine.l0]) ?_
      rw [show wrap64 (1 + 1) = 2 by decide +kernel]
      exact evF (by omega) (evS _)
    · rw [if_neg e]
      exact evF e (evS _)
  · rw [if_neg c]
    exact evF c (evS _)
theorem filled_both (n : Int) (L : List Int) (a b : Int) (h : L.length ≤ 1048576) : ∃ r : Int × Int × Int, Ev (fun k => spec_FilledLine.f k n L a b) r ∧ Ev (fun k => impl_FilledLine.f k n L a b) r := by
  unfold spec_FilledLine.f impl_FilledLine.f impl_stateCode.f
  have h1 := sets_spec n L a b h
  have h2 := sets_impl n L a b h
  by_cases c : setsC n L a b = 0
  · obtain ⟨c0, c1, c2, c3⟩ := setsC_zero n L a b c
    rw [if_pos c] at h1
    cases hs : stateB a b with
    | true =>
      rw [hs, if_pos rfl] at h1
      refine ⟨endF L a b, evB h1 (evT rfl (evG rfl (spec_out n L a b c0))), evB (a := (0 : Int)) (evB h2 (evT c ?_)) (evT rfl (evG rfl (impl_out n L a b c0 (by omega) (by omega))))⟩
      rw [state_impl a b (by omega) (by omega), hs]
      exact evG rfl (evB (first_one true 5) (evS _))
    | false =>
      rw [hs, if_neg (by simp)] at h1
      refine ⟨(0, 0, 5), evB h1 (evF (by decide) (evS _)), evB (a := (5 : Int)) (evB h2 (evT c ?_)) (evF (by decide) (evS _))⟩
      rw [state_impl a b (by omega) (by omega), hs]
      exact evG rfl (evB (first_one false 5) (evS _))
  · rw [if_neg c] at h1
    exact ⟨(0, 0, setsC n L a b), evB h1 (evF c (evS _)), evB (evB h2 (evF c (evS _))) (evF c (evS _))⟩

theorem two_zero (n : Nat) : Two n 0 0 := ⟨Nat.pow_pos (by decide), Nat.pow_pos (by decide), fun i => by simp [dg]⟩
theorem fl_zero {n : Int} {L : List Int} (hb : boardB n L = true) (d : Nat) : ∀ i : Int, 0 ≤ i → (L.length : Int) = i + d → fillF L 0 d i = 0 := by
  obtain ⟨b1, b2, b3⟩ := (boardB_iff n L).1 hb
  induction d with
  | zero => intro i _ _; rfl
  | succ d ih =>
    intro i h0 h1
    have g := b3 i h0 (by omega)
    have f := full_shl n b1
    have k62 : (2 : Nat) ^ 62 = 4611686018427387904 := by decide
    simp only [fillF]
    obtain ⟨x, hx⟩ := Int.eq_ofNat_of_zero_le (show 0 ≤ rd L i by omega)
    have e : Go.bits .and .i64 (rd L i) 0 = 0 := by
      rw [hx]
      have := and_nat x 0 (by omega) (by omega)
      simpa using this
    rw [e, if_neg (by omega)]
    exact ih (i + 1) (by omega) (by omega)
theorem play_both (n : Int) (L : List Int) (h : L.length ≤ 1048576) : ∃ (l : List Int) (c : Int), l.length ≤ 24 ∧ Ev (fun k => spec_PlayRace.f k n L) (l, c) ∧ Ev (fun k => impl_PlayRace.f k n L) (l, c) := by
  unfold spec_PlayRace.f impl_PlayRace.f spec_l07Small.f
  have h1 := board_spec n L (by omega)
  have h2 := board_impl n L (by omega)
  cases hb : boardB n L with
  | false =>
    rw [hb] at h1 h2
    exact ⟨[], 1, by simp, evB (evB h1 (evF (by simp) (evS _))) (evF (by decide) (evS _)), evB h2 (evB (first_two _ _ _ _) (evF (by simp) (evE (by simp) (evS _))))⟩
  | true =>
    rw [hb] at h1 h2
    obtain ⟨b1, b2, b3⟩ := (boardB_iff n L).1 hb
    by_cases hn : n ≤ 9
    · have hfr : fr 0 0 n.toNat = n.toNat := by
        have : ∀ m, fr 0 0 m = m := fun m => by
          induction m with
          | zero => rfl
          | succ m ih => unfold fr; rw [ih]; simp [dg]
        exact this _
      have hsd : sd 0 0 = (0, 0) := by unfold sd; rw [if_pos rfl]
      have hfl : fl L 0 = false := by
        unfold fl
        rw [show ((0 : Nat) : Int) = 0 from rfl, fl_zero hb L.length 0 (by omega) (by omega)]
        rfl
      have hp0 : pop 0 = 0 := popF_zero 64
      have h3 := play_spec hb hn n.toNat 0 0 [] _ ⟨two_zero _, .inl rfl⟩ (by rw [hsd]; exact hfl) hfr (by rw [hp0]; rfl) (by simp) (TabR.new n L)
      have h4 := play_impl hb hn n.toNat 0 0 40 [] (two_zero _) hfr (by omega) (by simp; omega)
      rw [hsd, List.nil_append] at h3
      rw [List.nil_append] at h4
      have hl := playM_len n L n.toNat 0 0
      generalize playM n L n.toNat 0 0 = l at h3 h4 hl
      exact ⟨l, 0, by omega, evB (evB h1 (evT rfl (evF (by omega) (evS _)))) (evT rfl (evB (table_spec n L ⟨b1.1, hn⟩) h3)), evB h2 (evB (first_two _ _ _ _) (evT (by simp [hn]) (evB h4 (evS _))))⟩
    · exact ⟨[], 3, by simp, evB (evB h1 (evT rfl (evT (by omega) (evS _)))) (evF (by decide) (evS _)), evB h2 (evB (first_two _ _ _ _) (evF (by simp [hn]) (evE (by simp [hn]) (evS _))))⟩
theorem ev_two {α β : Type} {f : Nat → Option α} {g : Nat → Option β} {a : α} {b : β} (h : Ev f a) (k : Ev g b) : ∃ K, ∀ n, K ≤ n → f n = some a ∧ g n = some b := by
  obtain ⟨K1, h1⟩ := h
  obtain ⟨K2, h2⟩ := k
  exact ⟨K1 + K2, fun n hn => ⟨h1 n (by omega), h2 n (by omega)⟩⟩
theorem ev_pair {α β : Type} {f : Nat → Option α} {g : Nat → Option β} {a : α} {b : β} (h : Ev f a) (k : Ev g b) : Ev (fun n => (f n).bind fun x => (g n).bind fun y => some (x, y)) (a, b) := evB h (evB k (evS _))
theorem pair_some {α β : Type} {o : Option α} {p : Option β} {a : α} {b : β} (h : (o.bind fun x => p.bind fun y => some (x, y)) = some (a, b)) : o = some a ∧ p = some b := by
  obtain ⟨x, h1, h⟩ := Option.bind_eq_some_iff.1 h
  obtain ⟨y, h2, h⟩ := Option.bind_eq_some_iff.1 h
  obtain ⟨rfl, rfl⟩ := Prod.mk.inj (Option.some.inj h)
  exact ⟨h1, h2⟩
theorem full_nat (n : Int) (a : Nat) (h : a < 2 ^ n.toNat) : 0 ≤ (a : Int) ∧ (a : Int) ≤ full n := by
  unfold full
  have := Nat.one_le_two_pow (n := n.toNat)
  omega
theorem sets_ok {n : Int} {L : List Int} (hb : boardB n L = true) (a b : Nat) (h : okS n (a, b)) : setsC n L a b = 0 ∧ stateB a b = true := by
  obtain ⟨b1, b2, b3⟩ := (boardB_iff n L).1 hb
  have k62 : (2 : Nat) ^ 62 = 4611686018427387904 := by decide
  obtain ⟨ha, hbb⟩ := h.1.le16 (by omega)
  constructor
  · unfold setsC
    rw [if_pos hb, if_pos ⟨full_nat n a h.1.1, full_nat n b h.1.2.1⟩]
  · have e : a &&& b = 0 := Nat.eq_of_testBit_eq (fun i => by
      rw [Nat.testBit_and, Nat.zero_testBit]
      cases c : a.testBit i with
      | false => rfl
      | true =>
        cases d : b.testBit i with
        | false => rfl
        | true => exact absurd ⟨c, d⟩ ((dg_three a b i).1 (h.1.2.2 i)))
    have hp : pop a = pop b ∨ pop a = pop b + 1 := h.2
    unfold stateB popI
    rw [and_nat a b (by omega) (by omega), e, Int.toNat_natCast, Int.toNat_natCast, decide_eq_true (show ((0 : Nat) : Int) = 0 by rfl), decide_eq_true (show 0 ≤ (pop a : Int) - (pop b : Int) ∧ (pop a : Int) - (pop b : Int) ≤ 1 by omega)]
    rfl
theorem free_ok {n : Int} {a b : Nat} {x : Int} (hn : n ≤ 16) (ha : a < 65536) (hb : b < 65536) (h : x ∈ freeN n a b) : freeOk n (Go.bits .or .i64 a b) x := by
  have k62 : (2 : Nat) ^ 62 = 4611686018427387904 := by decide
  obtain ⟨⟨h0, h1⟩, h2, h3⟩ := free_bits h
  refine ⟨⟨h0, by omega, by omega⟩, ?_⟩
  have hor : a ||| b < 2 ^ 62 := Nat.or_lt_two_pow (by omega) (by omega)
  rw [or_nat a b (by omega) (by omega), dig_bit _ x hor h0 (by omega), Nat.testBit_or, h2, h3]
  decide
theorem state_both (n : Int) (L : List Int) (a b : Int) (h : L.length ≤ 1048576) : ∃ r : Bool × Int, Ev (fun k => spec_IsState.f k n L a b) r ∧ Ev (fun k => impl_IsState.f k n L a b) r := by
  unfold spec_IsState.f impl_IsState.f
  have h1 := sets_spec n L a b h
  have h2 := sets_impl n L a b h
  by_cases c : setsC n L a b = 0
  · obtain ⟨_, c1, c2, c3⟩ := setsC_zero n L a b c
    rw [if_pos c] at h1
    cases hs : stateB a b with
    | true =>
      rw [hs, if_pos rfl] at h1
      exact ⟨(true, 0), evB h1 (evF (by decide) (evS _)), evB h2 (evT c (by rw [state_impl a b (by omega) (by omega), hs]; exact evG rfl (evS _)))⟩
    | false =>
      rw [hs, if_neg (by simp)] at h1
      exact ⟨(false, 0), evB h1 (evT rfl (evS _)), evB h2 (evT c (by rw [state_impl a b (by omega) (by omega), hs]; exact evG rfl (evS _)))⟩
  · rw [if_neg c] at h1
    have c5 : setsC n L a b ≠ 5 := by unfold setsC; split <;> (try split) <;> decide
    refine ⟨(false, setsC n L a b), evB h1 (evF c5 (evE ?_ (evS _))), evB h2 (evF c (evS _))⟩
    simp [c]

theorem race_all (n : Int) (L : List Int) (p q : Int) (h : L.length ≤ 1048576) : ∃ (r e : Int) (B : List Int) (e3 : Int) (st : Bool) (e5 : Int), (Ev (fun k => spec_RaceResult.f k n L p q) (r, e) ∧ Ev (fun k => impl_RaceResult.f k n L p q) (r, e)) ∧ (Ev (fun k => spec_BestNodes.f k n L p q) (B, e3) ∧ Ev (fun k => impl_BestNodes.f k n L p q) (B, e3)) ∧
    (Ev (fun k => spec_IsState.f k n L p q) (st, e5) ∧ Ev (fun k => impl_IsState.f k n L p q) (st, e5)) ∧ B.length ≤ 24 ∧ oneOk n p q r e B st := by
  rcases codes n L p q h with ⟨c, hc, h1, h2⟩ | ⟨a, b, rfl, rfl, hb, hn, hok, hf, _, _, h1, h2⟩
  · have h3 := sets_spec n L p q h
    have h4 := sets_impl n L p q h
    obtain ⟨st, e5, k1, k2⟩ : ∃ (st : Bool) (e5 : Int), Ev (fun k => spec_IsState.f k n L p q) (st, e5) ∧ Ev (fun k => impl_IsState.f k n L p q) (st, e5) := by
      obtain ⟨⟨st, e5⟩, k1, k2⟩ := state_both n L p q h
      exact ⟨st, e5, k1, k2⟩
    refine ⟨0, c, [], c, st, e5, ⟨?_, ?_⟩, ⟨?_, ?_⟩, ⟨k1, k2⟩, by simp, fun z => absurd z hc⟩
    · unfold spec_RaceResult.f
      exact evB h1 (evF hc (evS _))
    · unfold impl_RaceResult.f
      exact evB h2 (evF hc (evS _))
    · unfold spec_BestNodes.f
      exact evB h1 (evF hc (evS _))
    · unfold impl_BestNodes.f
      exact evB h2 (evF hc (evS _))
  · obtain ⟨b1, b2, b3⟩ := (boardB_iff n L).1 hb
    obtain ⟨ha16, hb16⟩ := hok.1.le16 (by omega)
    obtain ⟨c1, c2⟩ := sets_ok hb a b hok
    have hfr := fr_le a b n.toNat
    have hs := sets_spec n L a b h
    have hi := sets_impl n L a b h
    rw [if_pos c1, if_pos c2] at hs
    refine ⟨rv n L a b, 0, bestO n L (sd a b).1 (sd a b).2, 0, true, 0, ⟨?_, ?_⟩, ⟨?_, ?_⟩, ⟨?_, ?_⟩, ?_, fun _ => ⟨⟨rfl, ?_, ?_⟩, ?_, fun x hx => ?_⟩⟩
    · unfold spec_RaceResult.f
      obtain ⟨T', h3, _⟩ := race_spec hb hn (fr a b n.toNat + 1) a b _ hok (by omega) (TabR.new n L)
      generalize rv n L a b = r at h3 ⊢
      exact evB h1 (evT rfl (evB (table_spec n L ⟨b1.1, hn⟩) (evB h3 (evS _))))
    · unfold impl_RaceResult.f
      have h4 := race_impl hb 20 (sd a b).1 (sd a b).2 (sd_two hok.1) (by rw [← sd_free]; exact hf) (by rw [sd_fr]; omega)
      rw [← sd_rv] at h4
      generalize rv n L a b = r at h4 ⊢
      exact evB h2 (evT rfl (evG (raceOf_eq a b ha16 hb16) (evB h4 (evS _))))
    · unfold spec_BestNodes.f
      obtain ⟨T', h3, _⟩ := best_spec hb hn a b hok _ (TabR.new n L)
      rw [keepN_sd] at h3
      generalize bestO n L (sd a b).1 (sd a b).2 = l at h3 ⊢
      exact evB h1 (evT rfl (evB (table_spec n L ⟨b1.1, hn⟩) (evB h3 (evS _))))
    · unfold impl_BestNodes.f
      have h4 := best_impl hb hn (sd a b).1 (sd a b).2 (sd_two hok.1) (by rw [← sd_free]; exact hf)
      generalize bestO n L (sd a b).1 (sd a b).2 = l at h4 ⊢
      exact evB h2 (evT rfl (evG (raceOf_eq a b ha16 hb16) (evB h4 (evS _))))
    · unfold spec_IsState.f
      exact evB hs (evF (by decide) (evS _))
    · unfold impl_IsState.f
      exact evB hi (evT c1 (by rw [state_impl a b (by omega) (by omega), c2]; exact evG rfl (evS _)))
    · have h5 := freeN_len n (sd a b).1 (sd a b).2
      have h6 : (bestO n L (sd a b).1 (sd a b).2).length ≤ (freeN n (sd a b).1 (sd a b).2).length := List.length_filter_le _ _
      omega
    · obtain ⟨x, rest, hq, _⟩ := bestO_cons (L := L) (show freeN n (sd a b).1 (sd a b).2 ≠ [] by rw [← sd_free]; exact hf)
      rw [hq]
      simp
    · have h5 := freeN_len n (sd a b).1 (sd a b).2
      have h6 : (bestO n L (sd a b).1 (sd a b).2).length ≤ (freeN n (sd a b).1 (sd a b).2).length := List.length_filter_le _ _
      omega
    · rintro ⟨z1, z2, z3⟩
      have e1 : a = 0 := by exact_mod_cast z1
      have e2 : b = 0 := by exact_mod_cast z2
      subst e1 e2
      rw [sd_rv, show sd 0 0 = (0, 0) by unfold sd; rw [if_pos rfl]] at z3
      have := rc_start hb
      simp only at z3
      omega
    · have hx2 := (List.mem_filter.1 hx).1
      rw [← sd_free] at hx2
      exact free_ok (by omega) ha16 hb16 hx2
/-- The sets that the law reckons are those of the play. -/
theorem sets_end {n : Int} (hn : n ≤ 16) (l : List Int) : ∀ o t : Nat, Two n.toNat o t → fairL n l o t → setsF n l true (o : Int) (t : Int) = some (((endS l o t).1 : Int), ((endS l o t).2 : Int)) ∧ setsF n l false (t : Int) (o : Int) = some (((endS l o t).2 : Int), ((endS l o t).1 : Int)) := by
  have k62 : (2 : Nat) ^ 62 = 4611686018427387904 := by decide
  induction l with
  | nil => intro o t _ _; exact ⟨rfl, rfl⟩
  | cons p l ih =>
    intro o t h2 hf
    obtain ⟨ho, ht⟩ := h2.le16 (by omega)
    obtain ⟨hp, hl⟩ := hf
    obtain ⟨⟨h0, h1⟩, _, _⟩ := free_bits hp
    have hput := put_two hp h2
    obtain ⟨i1, i2⟩ := ih t (put o p) hput.swap hl
    have f1 := free_ok hn ho ht hp
    have f2 : freeOk n (Go.bits .or .i64 (t : Int) (o : Int)) p := free_ok hn ht ho (by rw [freeN_swap]; exact hp)
    have e := withN_put o p ho h0 (by omega)
    unfold withN at e
    rw [setsF_cons, setsF_cons, if_pos f1, if_pos f2, if_pos rfl, if_neg (by decide), e]
    exact ⟨i2, i1⟩
theorem end_ok {n : Int} (hn : n ≤ 16) (l : List Int) : ∀ o t : Nat, Two n.toNat o t → fairL n l o t → Two n.toNat (endS l o t).1 (endS l o t).2 ∧ (pop o = pop t → pop (endS l o t).1 = pop (endS l o t).2 ∨ pop (endS l o t).1 = pop (endS l o t).2 + 1) ∧ (pop t = pop o + 1 → pop (endS l o t).2 = pop (endS l o t).1 ∨ pop (endS l o t).2 = pop (endS l o t).1 + 1) := by
  induction l with
  | nil => intro o t h _; exact ⟨h, fun e => .inl e, fun e => .inr e⟩
  | cons p l ih =>
    intro o t h2 hf
    obtain ⟨hp, hl⟩ := hf
    obtain ⟨⟨h0, h1⟩, hb1, _⟩ := free_bits hp
    have hput := put_two hp h2
    have hpp := pop_put o p (by omega) hb1
    obtain ⟨i1, i2, i3⟩ := ih t (put o p) hput.swap hl
    exact ⟨i1.swap, fun e => i3 (by omega), fun e => i2 (by omega)⟩
theorem line_filled {n : Int} {L : List Int} (hb : boardB n L = true) (a b : Nat) (hok : okS n (a, b)) (hm : L.length ≤ 1048576) : Ev (fun k => impl_FilledLine.f k n L a b) (endF L a b) := by
  obtain ⟨b1, b2, b3⟩ := (boardB_iff n L).1 hb
  obtain ⟨ha16, hb16⟩ := hok.1.le16 (by omega)
  obtain ⟨c1, c2⟩ := sets_ok hb a b hok
  have h2 := sets_impl n L a b hm
  unfold impl_FilledLine.f impl_stateCode.f
  refine evB (a := (0 : Int)) (evB h2 (evT c1 ?_)) (evT rfl (evG rfl (impl_out n L a b hb (by omega) (by omega))))
  rw [state_impl a b (by omega) (by omega), c2]
  exact evG rfl (evB (first_one true 5) (evS _))
theorem start_race {n : Int} {L : List Int} (hb : boardB n L = true) (hn : n ≤ 9) (hm : L.length ≤ 1048576) : Ev (fun k => impl_RaceResult.f k n L 0 0) (rc n L 0 0, 0) := by
  obtain ⟨b1, b2, b3⟩ := (boardB_iff n L).1 hb
  have hok : okS n (0, 0) := ⟨two_zero _, .inl rfl⟩
  obtain ⟨c1, c2⟩ := sets_ok hb 0 0 hok
  have hfl : fillF L ((0 : Nat) : Int) L.length 0 = 0 := fl_zero hb L.length 0 (by omega) (by omega)
  have hfree : freeN n 0 0 ≠ [] := fun z => by
    have hp : ((0 : Nat) : Int) ∈ freeN n 0 0 := free_mk (by omega) (Nat.zero_testBit 0) (Nat.zero_testBit 0)
    rw [z] at hp
    cases hp
  have h2 := sets_impl n L ((0 : Nat) : Int) ((0 : Nat) : Int) hm
  have hsc : Ev (fun k => impl_stateCode.f k n L ((0 : Nat) : Int) ((0 : Nat) : Int)) 0 := by
    unfold impl_stateCode.f
    refine evB h2 (evT c1 ?_)
    rw [state_impl ((0 : Nat) : Int) ((0 : Nat) : Int) (by omega) (by omega), c2]
    exact evG rfl (evB (first_one true 5) (evS _))
  have hf0 := filled_impl n L ((0 : Nat) : Int) hb (by omega) (by omega)
  have hfi := free_impl n L b1 0 0 (two_zero _)
  have hcode : Ev (fun k => impl_raceCode.f k n L ((0 : Nat) : Int) ((0 : Nat) : Int)) 0 := by
    unfold impl_raceCode.f
    refine evB hsc (evT rfl (evB hf0 (evT hfl (evB hf0 (evT hfl (evG hfi (evB (first_two _ _ _ _) (evE ?_ (evS _)))))))))
    simp [hfree, hn]
  have h4 := race_impl hb 20 0 0 (two_zero _) hfree (by have := fr_le 0 0 n.toNat; omega)
  have hso := raceOf_eq 0 0 (by decide) (by decide)
  rw [show sd 0 0 = (0, 0) by unfold sd; rw [if_pos rfl]] at hso
  have fin : Ev (fun k => impl_RaceResult.f k n L ((0 : Nat) : Int) ((0 : Nat) : Int)) (rc n L 0 0, 0) := by
    unfold impl_RaceResult.f
    generalize rc n L 0 0 = r at h4 ⊢
    exact evB hcode (evT rfl (evG hso (evB h4 (evS _))))
  rw [show ((0 : Nat) : Int) = 0 from rfl] at fin
  exact fin
theorem play_all (n : Int) (L : List Int) (h : L.length ≤ 1048576) : ∃ (P : List Int) (e : Int), (Ev (fun k => spec_PlayRace.f k n L) (P, e) ∧ Ev (fun k => impl_PlayRace.f k n L) (P, e)) ∧ P.length ≤ 24 ∧ (e = 0 → Ev (fun k => twoF k n L P) ()) := by
  unfold spec_PlayRace.f impl_PlayRace.f spec_l07Small.f
  have h1 := board_spec n L (by omega)
  have h2 := board_impl n L (by omega)
  cases hb : boardB n L with
  | false =>
    rw [hb] at h1 h2
    exact ⟨[], 1, ⟨evB (evB h1 (evF (by simp) (evS _))) (evF (by decide) (evS _)), evB h2 (evB (first_two _ _ _ _) (evF (by simp) (evE (by simp) (evS _))))⟩, by simp, fun z => by omega⟩
  | true =>
    rw [hb] at h1 h2
    obtain ⟨b1, b2, b3⟩ := (boardB_iff n L).1 hb
    by_cases hn : n ≤ 9
    · have hfr : fr 0 0 n.toNat = n.toNat := by
        have : ∀ m, fr 0 0 m = m := fun m => by
          induction m with
          | zero => rfl
          | succ m ih => unfold fr; rw [ih]; simp [dg]
        exact this _
      have hsd : sd 0 0 = (0, 0) := by unfold sd; rw [if_pos rfl]
      have hfl : fl L 0 = false := by
        unfold fl
        rw [show ((0 : Nat) : Int) = 0 from rfl, fl_zero hb L.length 0 (by omega) (by omega)]
        rfl
      have hp0 : pop 0 = 0 := popF_zero 64
      have h3 := play_spec hb hn n.toNat 0 0 [] _ ⟨two_zero _, .inl rfl⟩ (by rw [hsd]; exact hfl) hfr (by rw [hp0]; rfl) (by simp) (TabR.new n L)
      have h4 := play_impl hb hn n.toNat 0 0 40 [] (two_zero _) hfr (by omega) (by simp; omega)
      rw [hsd, List.nil_append] at h3
      rw [List.nil_append] at h4
      have hl := playM_len n L n.toNat 0 0
      obtain ⟨p1, p2, p3, p4⟩ := play_end (L := L) n.toNat 0 0 (two_zero _) hfl hfl hfr
      refine ⟨playM n L n.toNat 0 0, 0, ⟨evB (evB h1 (evT rfl (evF (by omega) (evS _)))) (evT rfl (evB (table_spec n L ⟨b1.1, hn⟩) h3)), evB h2 (evB (first_two _ _ _ _) (evT (by simp [hn]) (evB h4 (evS _))))⟩, by omega, fun _ => ?_⟩
      have hset := (sets_end (by omega) _ 0 0 (two_zero _) p1).1
      obtain ⟨q1, q2, _⟩ := end_ok (by omega) _ 0 0 (two_zero _) p1
      have hline := line_filled hb _ _ ⟨q1, q2 rfl⟩ h
      have hrace := start_race hb hn h
      have hr0 := rc_start hb
      have hr1 := rc_small n L 0 0
      generalize playM n L n.toNat 0 0 = P at *
      generalize (endS P 0 0).1 = x at *
      generalize (endS P 0 0).2 = y at *
      unfold twoF
      refine evT (by omega) (evG hset (evB hline (evB hrace (evT ?_ (evS _)))))
      unfold endF
      rcases Int.lt_or_le 0 (rc n L 0 0) with c | c
      · obtain ⟨g1, g2⟩ := p2 (by omega)
        have : ¬ fillF L (x : Int) L.length 0 = 0 := fun z => by unfold fl at g1; rw [z] at g1; cases g1
        rw [if_neg this]
        exact ⟨rfl, fun _ => ⟨rfl, by show rc n L 0 0 = 1; omega⟩, fun z => absurd rfl z⟩
      · obtain ⟨g1, g2, g3⟩ := p4 (by omega)
        have e1 : fillF L (x : Int) L.length 0 = 0 := by unfold fl at g1; simpa using g1
        have e2 : fillF L (y : Int) L.length 0 = 0 := by unfold fl at g2; simpa using g2
        rw [if_pos e1, if_pos e2]
        exact ⟨rfl, fun z => absurd z (by decide), fun _ => ⟨by show rc n L 0 0 = 0; omega, by omega⟩⟩
    · exact ⟨[], 3, ⟨evB (evB h1 (evT rfl (evT (by omega) (evS _)))) (evF (by decide) (evS _)), evB h2 (evB (first_two _ _ _ _) (evF (by simp [hn]) (evE (by simp [hn]) (evS _))))⟩, by simp, fun z => by omega⟩
end Go.Proofs.Ytbmkhdeeengbmaa.B
