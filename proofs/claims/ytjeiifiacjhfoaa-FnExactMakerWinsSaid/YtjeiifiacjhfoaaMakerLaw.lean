/-
  Who wins: the plain recursion; the program's store-free recursion comes to it, and the reference's table. Boards alone, as the facts ask.
-/
import Derived.Test.YtjeiifiacjhfoaaNodes
import Derived.Test.YtjeiifiacjhfoaaMakerCode
import Derived.Test.YtjeiifiacjhfoaaQ24
namespace Go.Proofs.Ytjeiifiacjhfoaa.B
open Go.RowKit Go.Proofs.Ytjeiifiacjhfoaa.Q Go.Proofs.YtjeiifiacjhfoaaW.PrintWords Go.Proofs.YtjeiifiacjhfoaaW.PrintLast Go.Proofs.YtjeiifiacjhfoaaW.PrintMore

def mwN (n : Int) (L : List Int) : Nat → Nat → Nat → Bool
  | 0, _, _ => false
  | d + 1, a, b => if fl L a = true then true else if pop a = pop b then (freeN n a b).any (fun p => mwN n L d (put a p) b) else (!(freeN n a b).isEmpty && !(freeN n a b).any (fun p => !mwN n L d a (put b p)))
/-- Whether the maker wins. -/
def mw (n : Int) (L : List Int) (a b : Nat) : Bool := mwN n L (fr a b n.toNat + 1) a b
theorem any_congr' {l : List Int} {p q : Int → Bool} (h : ∀ x ∈ l, p x = q x) : l.any p = l.any q := by
  induction l with
  | nil => rfl
  | cons x l ih =>
    simp only [List.any_cons]
    rw [h x List.mem_cons_self, ih (fun y hy => h y (List.mem_cons_of_mem _ hy))]
theorem put_frB {n : Int} {a b : Nat} {p : Int} (h : p ∈ freeN n a b) : fr a (put b p) n.toNat + 1 = fr a b n.toNat := by
  have h2 : p ∈ freeN n b a := by rw [freeN_swap]; exact h
  have := put_fr h2
  rw [fr_swap a (put b p), fr_swap a b] at this
  exact this
theorem put_twoB {n : Int} {a b : Nat} {p : Int} (h : p ∈ freeN n a b) (ht : Two n.toNat a b) : Two n.toNat a (put b p) := by
  have h2 : p ∈ freeN n b a := by rw [freeN_swap]; exact h
  exact (put_two h2 ht.swap).swap
theorem mw_eq (n : Int) (L : List Int) (a b : Nat) : mw n L a b = if fl L a = true then true else if pop a = pop b then (freeN n a b).any (fun p => mw n L (put a p) b) else (!(freeN n a b).isEmpty && !(freeN n a b).any (fun p => !mw n L a (put b p))) := by
  unfold mw
  rw [mwN]
  rw [any_congr' (l := freeN n a b) (p := fun p => mwN n L (fr a b n.toNat) (put a p) b) (q := fun p => mwN n L (fr (put a p) b n.toNat + 1) (put a p) b) (fun p hp => by rw [put_fr hp])]
  rw [any_congr' (l := freeN n a b) (p := fun p => !mwN n L (fr a b n.toNat) a (put b p)) (q := fun p => !mwN n L (fr a (put b p) n.toNat + 1) a (put b p)) (fun p hp => by rw [put_frB hp])]
theorem mw_filled {n : Int} {L : List Int} {a b : Nat} (h : fl L a = true) : mw n L a b = true := by rw [mw_eq, if_pos h]
section
variable {n : Int} {L : List Int} (hb : boardB n L = true)
include hb
theorem maker_impl (d : Nat) : ∀ a b : Nat, Two n.toNat a b → fr a b n.toNat < d → Ev (fun k => makerF k n L d a b) (mw n L a b) := by
  obtain ⟨b1, b2, b3⟩ := (boardB_iff n L).1 hb
  induction d with
  | zero => intro a b _ hd; omega
  | succ d ih =>
    intro a b h hd
    obtain ⟨ha, hb16⟩ := h.le16 (by omega)
    simp only [makerF]
    refine evT (by unfold okR; omega) (evB (filled_impl n L a hb (by omega) (by omega)) ?_)
    by_cases c : fillF L a L.length 0 = 0
    · have hfl : ¬ fl L a = true := by unfold fl; simp [c]
      have e1 := many_eq (a : Int) (by omega) (by omega)
      have e2 := many_eq (b : Int) (by omega) (by omega)
      unfold popI at e1 e2
      rw [Int.toNat_natCast] at e1 e2
      rw [mw_eq, if_neg hfl]
      refine evT c (evG (free_impl n L b1 a b h) (evG e1 (evG e2 ?_)))
      by_cases e : pop a = pop b
      · rw [if_pos e]
        refine evT (by omega) (anyF_ev _ (fun p => mw n L (put a p) b) _ (fun p hp => ?_))
        obtain ⟨h0, h1, h2⟩ := (mem_freeN p).1 hp
        have hf := put_fr hp
        unfold makeP
        rw [withN_put a p ha h0 (by omega)]
        exact evT h0 (ih (put a p) b (put_two hp h) (by omega))
      · rw [if_neg e]
        refine evF (by omega) ?_
        by_cases z : freeN n a b = []
        · refine evT (by rw [z]; rfl) (evE ?_ (evS _))
          rw [z]
          rfl
        · refine evF (fun c => z (List.eq_nil_of_length_eq_zero c)) (evB (anyF_ev _ (fun p => !mw n L a (put b p)) _ (fun p hp => ?_)) (evE ?_ (evS _)))
          · obtain ⟨h0, h1, h2⟩ := (mem_freeN p).1 hp
            have hf := put_frB hp
            have h3 := ih a (put b p) (put_twoB hp h) (by omega)
            unfold breakP
            rw [withN_put b p hb16 h0 (by omega)]
            generalize mw n L a (put b p) = v at h3 ⊢
            exact evT h0 (evB h3 (evS _))
          · have : (freeN n a b).isEmpty = false := by simpa using z
            rw [this]
            rfl
    · have hfl : fl L a = true := by unfold fl; simp [c]
      exact evF c (evE (mw_filled hfl).symm (evS _))
end
/-- The states of the table, and their places. -/
def okM (n : Int) (L : List Int) (s : Nat × Nat) : Prop := (Two n.toNat s.1 s.2 ∧ (pop s.1 = pop s.2 ∨ pop s.1 = pop s.2 + 1)) ∧ fl L s.1 = false
def plM (n : Int) (s : Nat × Nat) : Nat := pl3 s.1 s.2 n.toNat
theorem plM_inj (n : Int) (L : List Int) (s s' : Nat × Nat) (h : okM n L s) (h' : okM n L s') (e : plM n s = plM n s') : s = s' := by
  obtain ⟨a, b⟩ := s
  obtain ⟨c, d⟩ := s'
  obtain ⟨rfl, rfl⟩ := pl3_inj h.1.1 h'.1.1 e
  rfl
theorem plM_lt (n : Int) (L : List Int) (s : Nat × Nat) (h : okM n L s) : plM n s < 3 ^ n.toNat := pl3_lt s.1 s.2 h.1.1.2.2 n.toNat
def valM (n : Int) (L : List Int) (s : Nat × Nat) : Int := if mw n L s.1 s.2 = true then 2 else 1
def TabM (n : Int) (L : List Int) (t : List Int) : Prop := Tab (okM n L) (plM n) (valM n L) (3 ^ n.toNat) t
theorem TabM.new (n : Int) (L : List Int) : TabM n L (List.replicate (3 ^ n.toNat) 0) := Tab.new (fun s h => plM_lt n L s h)
theorem TabM.put {n : Int} {L t : List Int} (h : TabM n L t) (a b : Nat) (hs : okM n L (a, b)) (v : Int) (hv : v = valM n L (a, b)) : TabM n L (t.set (pl3 a b n.toNat) v) := by
  rw [hv]
  exact Tab.set h (plM_inj n L) (a, b) hs
theorem TabM.at {n : Int} {L t : List Int} (h : TabM n L t) (a b : Nat) (hs : okM n L (a, b)) : (pl3 a b n.toNat : Int) < t.length ∧ (rd t (pl3 a b n.toNat : Int) = 0 ∨ rd t (pl3 a b n.toNat : Int) = valM n L (a, b)) := by
  obtain ⟨h1, h2⟩ := h.2 _ hs
  refine ⟨by rw [h.1]; exact_mod_cast h1, ?_⟩
  unfold rd
  rw [Int.toNat_natCast]
  exact h2
theorem and_pow_zero (x i : Nat) : x &&& 2 ^ i = 0 ↔ x.testBit i = false := by
  constructor
  · intro h
    have e : (x &&& 2 ^ i).testBit i = false := by rw [h]; exact Nat.zero_testBit i
    rw [Nat.testBit_and, Nat.testBit_two_pow_self, Bool.and_true] at e
    exact e
  · intro h
    refine Nat.eq_of_testBit_eq (fun j => ?_)
    rw [Nat.testBit_and, Nat.testBit_two_pow, Nat.zero_testBit]
    by_cases e : i = j
    · subst e
      simp [h]
    · simp [e]
theorem and_dig (a b : Nat) (i : Int) (ha : a < 65536) (hb2 : b < 65536) (h0 : 0 ≤ i) (h1 : i ≤ 16) : Go.bits .and .i64 (Go.bits .or .i64 a b) (shl .i64 1 i) = 0 ↔ dg a b i.toNat = 0 := by
  have k62 : (2 : Nat) ^ 62 = 4611686018427387904 := by decide
  have e := and_pow_zero (a ||| b) i.toNat
  rw [shl_one i h0 (by omega), or_nat a b (by omega) (by omega), and_nat _ _ (Nat.or_lt_two_pow (by omega) (by omega)) (Nat.pow_lt_pow_right (by decide) (by omega)), dg_zero]
  rw [Nat.testBit_or] at e
  constructor
  · intro h
    have h2 := e.1 (by exact_mod_cast h)
    simpa using h2
  · intro h
    have h2 := e.2 (by rw [h.1, h.2]; rfl)
    exact_mod_cast h2
/-- One node more in the reference's loop. -/
def stepM (n : Int) (L : List Int) (a b : Nat) (o : Bool) (p : Int) : Bool := if pop a = pop b then o || mw n L (put a p) b else o && mw n L a (put b p)
theorem fold_or (f : Int → Bool) (l : List Int) : ∀ o : Bool, l.foldl (fun o p => o || f p) o = (o || l.any f) := by
  induction l with
  | nil => intro o; simp
  | cons x l ih =>
    intro o
    simp only [List.foldl_cons, List.any_cons]
    rw [ih]
    cases o <;> simp
theorem fold_and (f : Int → Bool) (l : List Int) : ∀ o : Bool, l.foldl (fun o p => o && f p) o = (o && !l.any (fun p => !f p)) := by
  induction l with
  | nil => intro o; simp
  | cons x l ih =>
    intro o
    simp only [List.foldl_cons, List.any_cons]
    rw [ih]
    cases o <;> cases f x <;> simp
theorem mw_fold {n : Int} {L : List Int} {a b : Nat} (h : fl L a = false) : ((freeN n a b).foldl (stepM n L a b) (!(decide (pop a = pop b))) && (false || !(freeN n a b).isEmpty)) = mw n L a b := by
  rw [mw_eq, h, if_neg (by simp)]
  by_cases e : pop a = pop b
  · have : stepM n L a b = fun o p => o || mw n L (put a p) b := by funext o p; unfold stepM; rw [if_pos e]
    rw [this, fold_or, if_pos e, decide_eq_true e]
    cases z : freeN n a b <;> simp
  · have : stepM n L a b = fun o p => o && mw n L a (put b p) := by funext o p; unfold stepM; rw [if_neg e]
    rw [this, fold_and, if_neg e, decide_eq_false e]
    cases (freeN n a b).isEmpty <;> simp
section
variable {n : Int} {L : List Int} (hb : boardB n L = true) (hn : n ≤ 9)
include hb hn
theorem maker_l (a b : Nat) (h : okM n L (a, b)) (ihb : ∀ a' b' : Nat, okM n L (a', b') → fr a' b' n.toNat < fr a b n.toNat → ∀ T, TabM n L T → ∃ T', Ev (fun k => spec_l07Maker.f k n L a' b' T) (mw n L a' b', T') ∧ TabM n L T') (d : Nat) :
    ∀ (i : Int) (T : List Int) (out free : Bool), 0 ≤ i → i + d = n → TabM n L T →
      (((seg i d).filter (fun p => dg a b p.toNat == 0)).foldl (stepM n L a b) out && (free || !((seg i d).filter (fun p => dg a b p.toNat == 0)).isEmpty)) = mw n L a b →
      ∃ T', Ev (fun k => spec_l07Maker.l0 k a b T (pl3 a b n.toNat : Int) (decide (pop a = pop b)) out free i n L) (mw n L a b, T') ∧ TabM n L T' := by
  obtain ⟨b1, b2, b3⟩ := (boardB_iff n L).1 hb
  obtain ⟨ha16, hb16⟩ := h.1.1.le16 (by omega)
  induction d with
  | zero =>
    intro i T out free h0 h1 hT hv
    obtain ⟨t1, _⟩ := hT.at a b h
    simp only [seg, List.filter_nil, List.foldl_nil, List.isEmpty_nil, Bool.not_true, Bool.or_false] at hv
    have fin : ∀ v : Bool, mw n L a b = v → TabM n L (T.set (pl3 a b n.toNat) (if v = true then 2 else 1)) := fun v e => hT.put a b h _ (by unfold valM; rw [e])
    rw [← hv]
    cases out with
    | true =>
      cases free with
      | true =>
        refine ⟨_, ?_, fin true hv.symm⟩
        refine evSucc (fun k => by rw [spec_l07Maker.l0]) ?_
        refine evF (by omega) ?_
        refine evT rfl (evT (by omega) (evT t1 (evG rfl (evT rfl ?_))))
        rw [Int.toNat_natCast, List.set_set]
        exact evS _
      | false =>
        refine ⟨_, ?_, fin false hv.symm⟩
        refine evSucc (fun k => by rw [spec_l07Maker.l0]) ?_
        refine evF (by omega) ?_
        refine evT rfl (evT (by omega) (evT t1 (evG rfl (evF (by simp) ?_))))
        rw [Int.toNat_natCast]
        exact evS _
    | false =>
      refine ⟨_, ?_, fin false hv.symm⟩
      refine evSucc (fun k => by rw [spec_l07Maker.l0]) ?_
      refine evF (by omega) ?_
      refine evF (by simp) (evT (by omega) (evT t1 ?_))
      rw [Int.toNat_natCast]
      exact evS _
  | succ d ih =>
    intro i T out free h0 h1 hT hv
    have hw : wrap64 (i + 1) = i + 1 := wrap_in (by omega) (by omega)
    have hand := and_dig a b i ha16 hb16 h0 (by omega)
    have w1 := withN_put a i ha16 h0 (by omega)
    have w2 := withN_put b i hb16 h0 (by omega)
    unfold withN at w1 w2
    by_cases c : dg a b i.toNat = 0
    · have hmem : i ∈ freeN n a b := (mem_freeN i).2 ⟨h0, by omega, c⟩
      have e : (seg i (d + 1)).filter (fun p => dg a b p.toNat == 0) = i :: (seg (i + 1) d).filter (fun p => dg a b p.toNat == 0) := by simp [seg, c]
      have hbits := (dg_zero a b i.toNat).1 c
      rw [e, List.foldl_cons] at hv
      have hgo : ∀ (T1 : List Int) (o1 : Bool), TabM n L T1 → o1 = stepM n L a b out i → ∃ T', Ev (fun k => spec_l07Maker.l0 k a b T1 (pl3 a b n.toNat : Int) (decide (pop a = pop b)) o1 true (i + 1) n L) (mw n L a b, T') ∧ TabM n L T' := fun T1 o1 hT1 ho => by
        refine ih (i + 1) T1 o1 true (by omega) (by omega) hT1 ?_
        rw [ho]
        simpa using hv
      by_cases et : pop a = pop b
      · cases out with
        | true =>
          obtain ⟨T', h2, h3⟩ := hgo T true hT (by unfold stepM; rw [if_pos et]; rfl)
          refine ⟨T', ?_, h3⟩
          refine evSucc (fun k => by rw [spec_l07Maker.l0]) ?_
          rw [u64_at i h0 (by omega), hw]
          exact evT (by omega) (evT h0 (evT (hand.2 c) (evT (decide_eq_true et) (evT rfl h2))))
        | false =>
          by_cases cf : fl L (put a i) = true
          · obtain ⟨T', h2, h3⟩ := hgo T true hT (by unfold stepM; rw [if_pos et, mw_filled cf]; rfl)
            refine ⟨T', ?_, h3⟩
            refine evSucc (fun k => by rw [spec_l07Maker.l0]) ?_
            rw [u64_at i h0 (by omega), hw, w1]
            exact evT (by omega) (evT h0 (evT (hand.2 c) (evT (decide_eq_true et) (evF (by simp) (evB (fills_spec hb (put a i)) (evT cf h2))))))
          · have hpp := pop_put a i (by omega) hbits.1
            obtain ⟨T1, h4, h5⟩ := ihb (put a i) b ⟨⟨put_two hmem h.1.1, .inr (by show pop (put a i) = pop b + 1; omega)⟩, by simpa using cf⟩ (by have := put_fr hmem; omega) T hT
            obtain ⟨T', h2, h3⟩ := hgo T1 (mw n L (put a i) b) h5 (by unfold stepM; rw [if_pos et]; simp)
            refine ⟨T', ?_, h3⟩
            refine evSucc (fun k => by rw [spec_l07Maker.l0]) ?_
            rw [u64_at i h0 (by omega), hw, w1]
            clear hv hgo
            generalize mw n L (put a i) b = v at h4 h2
            generalize mw n L a b = u at h2 ⊢
            exact evT (by omega) (evT h0 (evT (hand.2 c) (evT (decide_eq_true et) (evF (by simp) (evB (fills_spec hb (put a i)) (evF cf (evB h4 h2)))))))
      · cases out with
        | false =>
          obtain ⟨T', h2, h3⟩ := hgo T false hT (by unfold stepM; rw [if_neg et]; rfl)
          refine ⟨T', ?_, h3⟩
          refine evSucc (fun k => by rw [spec_l07Maker.l0]) ?_
          rw [u64_at i h0 (by omega), hw]
          exact evT (by omega) (evT h0 (evT (hand.2 c) (evF (by simpa using et) (evF (by simp) h2))))
        | true =>
          have hpp := pop_put b i (by omega) hbits.2
          have h6 : pop a = pop b + 1 := by
            rcases h.1.2 with c | c
            · exact absurd c et
            · exact c
          obtain ⟨T1, h4, h5⟩ := ihb a (put b i) ⟨⟨put_twoB hmem h.1.1, .inl (by show pop a = pop (put b i); omega)⟩, h.2⟩ (by have := put_frB hmem; omega) T hT
          obtain ⟨T', h2, h3⟩ := hgo T1 (mw n L a (put b i)) h5 (by unfold stepM; rw [if_neg et]; simp)
          refine ⟨T', ?_, h3⟩
          refine evSucc (fun k => by rw [spec_l07Maker.l0]) ?_
          rw [u64_at i h0 (by omega), hw, w2]
          clear hv hgo
          generalize mw n L a (put b i) = v at h4 h2
          generalize mw n L a b = u at h2 ⊢
          exact evT (by omega) (evT h0 (evT (hand.2 c) (evF (by simpa using et) (evT rfl (evB h4 h2)))))
    · have e : (seg i (d + 1)).filter (fun p => dg a b p.toNat == 0) = (seg (i + 1) d).filter (fun p => dg a b p.toNat == 0) := by simp [seg, c]
      rw [e] at hv
      obtain ⟨T', h4, h5⟩ := ih (i + 1) T out free (by omega) (by omega) hT hv
      refine ⟨T', ?_, h5⟩
      refine evSucc (fun k => by rw [spec_l07Maker.l0]) ?_
      rw [u64_at i h0 (by omega), hw]
      exact evT (by omega) (evT h0 (evF (fun g => c (hand.1 g)) h4))
theorem maker_spec (m : Nat) : ∀ (a b : Nat), okM n L (a, b) → fr a b n.toNat < m → ∀ T, TabM n L T → ∃ T', Ev (fun k => spec_l07Maker.f k n L a b T) (mw n L a b, T') ∧ TabM n L T' := by
  obtain ⟨b1, b2, b3⟩ := (boardB_iff n L).1 hb
  induction m with
  | zero => intro a b h hm; omega
  | succ m ihm =>
    intro a b h hm T hT
    obtain ⟨h1, h2⟩ := hT.at a b h
    obtain ⟨ha16, hb16⟩ := h.1.1.le16 (by omega)
    have hpl := place_spec n L a b ⟨by omega, hn⟩ h.1.1
    by_cases hk : rd T (pl3 a b n.toNat : Int) > 0
    · refine ⟨T, ?_, hT⟩
      refine evSucc (fun k => by rw [spec_l07Maker.f]) ?_
      have hv : rd T (pl3 a b n.toNat : Int) = valM n L (a, b) := by
        rcases h2 with h2 | h2
        · exact absurd h2 (by omega)
        · exact h2
      have hq : (rd T (pl3 a b n.toNat : Int) == 2) = mw n L a b := by
        rw [hv]
        unfold valM
        cases mw n L a b <;> rfl
      refine evB hpl (evT (by omega) (evT h1 (evT hk ?_)))
      rw [hq]
      exact evS _
    · have o1 := ones_eq (a : Int) (by omega) (by omega)
      have o2 := ones_eq (b : Int) (by omega) (by omega)
      unfold popI at o1 o2
      rw [Int.toNat_natCast] at o1 o2
      obtain ⟨T', h3, h4⟩ := maker_l hb hn a b h (fun a' b' h' hlt => ihm a' b' h' (by omega)) n.toNat 0 T (!(decide (pop a = pop b))) false (by omega) (by omega) hT (mw_fold h.2)
      refine ⟨T', ?_, h4⟩
      have hd : (((pop a : Nat) : Int) == ((pop b : Nat) : Int)) = decide (pop a = pop b) := by
        rw [Bool.eq_iff_iff, beq_iff_eq, decide_eq_true_eq]
        omega
      refine evSucc (fun k => by rw [spec_l07Maker.f]) ?_
      refine evB hpl (evT (by omega) (evT h1 (evF hk (evB o1 (evB o2 ?_)))))
      rw [hd]
      exact h3
end
end Go.Proofs.Ytjeiifiacjhfoaa.B
