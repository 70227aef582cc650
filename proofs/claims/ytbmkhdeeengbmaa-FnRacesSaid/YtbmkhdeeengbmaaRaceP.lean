/-
  Races: the plain recursion and its bounds; the program's store-free recursion comes to it. Boards alone, as the facts ask.
  The reference's table of results: results and best nodes with it. Boards alone, as the facts ask.
  Races from the side of the player who is to take a node: the best nodes, program and reference alike. Boards alone, as the facts ask.
-/
import Derived.Test.YtbmkhdeeengbmaaNodes
import Derived.Test.YtbmkhdeeengbmaaRace
import Derived.Test.YtbmkhdeeengbmaaSpecBehind2
import Derived.Test.YtbmkhdeeengbmaaQ6b

namespace Go.Proofs.Ytbmkhdeeengbmaa.B
open Go.RowKit Go.Proofs.Ytbmkhdeeengbmaa.Q Go.Proofs.YtbmkhdeeengbmaaW.PrintWords Go.Proofs.YtbmkhdeeengbmaaW.PrintLast Go.Proofs.YtbmkhdeeengbmaaW.PrintMore

def bh (L : List Int) (f : Nat → Nat → Int) (o t : Nat) (p : Int) : Int := if fl L (put o p) = true then 1 else - f t (put o p)
def topR (L : List Int) (f : Nat → Nat → Int) (o t : Nat) (l : List Int) (b : Int) : Int := l.foldl (fun b p => mx b (bh L f o t p)) b
def rcN (n : Int) (L : List Int) : Nat → Nat → Nat → Int
  | 0, _, _ => 0
  | d + 1, o, t => if freeN n o t = [] then 0 else topR L (rcN n L d) o t (freeN n o t) (-1)
/-- The result of a race for the player who is to take a node. -/
def rc (n : Int) (L : List Int) (o t : Nat) : Int := rcN n L (fr o t n.toNat + 1) o t
theorem topR_congr {L : List Int} {f g : Nat → Nat → Int} {o t : Nat} (l : List Int) : (∀ p ∈ l, f t (put o p) = g t (put o p)) → ∀ b, topR L f o t l b = topR L g o t l b := by
  induction l with
  | nil => intro h b; rfl
  | cons x l ih =>
    intro h b
    have e : bh L f o t x = bh L g o t x := by unfold bh; rw [h x List.mem_cons_self]
    simp only [topR, List.foldl_cons] at ih ⊢
    rw [e]
    exact ih (fun y hy => h y (List.mem_cons_of_mem _ hy)) _
theorem rc_eq (n : Int) (L : List Int) (o t : Nat) : rc n L o t = if freeN n o t = [] then 0 else topR L (rc n L) o t (freeN n o t) (-1) := by
  unfold rc
  rw [rcN]
  by_cases c : freeN n o t = []
  · rw [if_pos c, if_pos c]
  · rw [if_neg c, if_neg c]
    refine topR_congr _ (fun p hp => ?_) _
    have := put_fr hp
    rw [fr_swap (put o p) t, this]
theorem topR_range {L : List Int} {f : Nat → Nat → Int} {o t : Nat} (l : List Int) : (∀ p ∈ l, -1 ≤ f t (put o p) ∧ f t (put o p) ≤ 1) → ∀ b, -1 ≤ b ∧ b ≤ 1 → -1 ≤ topR L f o t l b ∧ topR L f o t l b ≤ 1 := by
  induction l with
  | nil => intro h b hb; exact hb
  | cons x l ih =>
    intro h b hb
    have hx := h x List.mem_cons_self
    simp only [topR, List.foldl_cons] at ih ⊢
    refine ih (fun y hy => h y (List.mem_cons_of_mem _ hy)) _ ?_
    unfold bh
    simp only [mx]
    split <;> split <;> omega
theorem rc_range (n : Int) (L : List Int) (m : Nat) : ∀ o t : Nat, fr o t n.toNat < m → -1 ≤ rc n L o t ∧ rc n L o t ≤ 1 := by
  induction m with
  | zero => intro o t h; omega
  | succ m ih =>
    intro o t h
    rw [rc_eq]
    split
    · omega
    · refine topR_range _ (fun p hp => ?_) _ (by omega)
      have := put_fr hp
      exact ih t (put o p) (by rw [fr_swap (put o p) t]; omega)
theorem rc_small (n : Int) (L : List Int) (o t : Nat) : -1 ≤ rc n L o t ∧ rc n L o t ≤ 1 := rc_range n L (fr o t n.toNat + 1) o t (by omega)
theorem bh_small (n : Int) (L : List Int) (o t : Nat) (p : Int) : -1 ≤ bh L (rc n L) o t p ∧ bh L (rc n L) o t p ≤ 1 := by
  have := rc_small n L t (put o p)
  unfold bh
  split <;> omega
theorem rc_nil {n : Int} {L : List Int} {o t : Nat} (h : freeN n o t = []) : rc n L o t = 0 := by rw [rc_eq, if_pos h]
theorem maxL_ev (f : Nat → Int → Option Int) (g : Int → Int) (l : List Int) : (∀ x ∈ l, Ev (fun k => f k x) (g x)) → ∀ b, Ev (fun k => maxL (f k) l b) (l.foldl (fun b e => mx b (g e)) b) := by
  induction l with
  | nil => intro h b; exact evS _
  | cons x l ih =>
    intro h b
    simp only [maxL, List.foldl_cons]
    exact evB (h x List.mem_cons_self) (ih (fun y hy => h y (List.mem_cons_of_mem _ hy)) _)
section
variable {n : Int} {L : List Int} (hb : boardB n L = true)
include hb
theorem behind_impl (o t : Nat) (h : Two n.toNat o t) (p : Int) (hp : p ∈ freeN n o t) (S : Nat → Int → Int → Option Int) (hS : freeN n t (put o p) ≠ [] → Ev (fun k => S k (t : Int) (put o p : Nat)) (rc n L t (put o p))) :
    Ev (fun k => behindF (S k) k n L o t p) (bh L (rc n L) o t p) := by
  obtain ⟨b1, b2, b3⟩ := (boardB_iff n L).1 hb
  obtain ⟨h0, h1, h2⟩ := (mem_freeN p).1 hp
  have ht := put_two hp h
  obtain ⟨ho, htt⟩ := h.le16 (by omega)
  obtain ⟨ho2, _⟩ := ht.le16 (by omega)
  have hr := rc_small n L t (put o p)
  unfold behindF
  rw [withN_put o p ho h0 (by omega)]
  refine evT h0 (evB (filled_impl n L _ hb (by omega) (by omega)) ?_)
  unfold bh fl
  by_cases c : fillF L (put o p : Nat) L.length 0 = 0
  · refine evT c (evG (free_impl n L b1 (put o p) t ht) ?_)
    rw [freeN_swap n t (put o p)]
    by_cases e : freeN n t (put o p) = []
    · refine evT (by rw [e]; rfl) (evE ?_ (evS _))
      rw [rc_nil e]
      simp [c]
    · refine evF (fun c => e (List.eq_nil_of_length_eq_zero c)) (evB (hS e) (evE ?_ (evS _)))
      rw [wrap_in (by omega) (by omega)]
      simp [c]
  · refine evF c (evE ?_ (evS _))
    simp [c]
theorem race_impl (d : Nat) : ∀ o t : Nat, Two n.toNat o t → freeN n o t ≠ [] → fr o t n.toNat < d → Ev (fun k => raceF k n L d o t) (rc n L o t) := by
  obtain ⟨b1, b2, b3⟩ := (boardB_iff n L).1 hb
  induction d with
  | zero => intro o t _ _ hd; omega
  | succ d ih =>
    intro o t h hne hd
    obtain ⟨ho, ht⟩ := h.le16 (by omega)
    have hl := freeN_len n o t
    simp only [raceF]
    refine evT (by unfold okR; omega) (evG (free_impl n L b1 o t h) (evT (by omega) ?_))
    rw [rc_eq, if_neg hne]
    unfold topR
    refine maxL_ev _ (bh L (rc n L) o t) _ (fun p hp => ?_) _
    have hf := put_fr hp
    have h2 := put_two hp h
    exact behind_impl hb o t h p hp (fun k => raceF k n L d) (fun hne2 => ih t (put o p) h2.swap hne2 (by rw [fr_swap (put o p) t]; omega))
end
end Go.Proofs.Ytbmkhdeeengbmaa.B

namespace Go.Proofs.Ytbmkhdeeengbmaa.B
open Go.RowKit Go.Proofs.Ytbmkhdeeengbmaa.Q Go.Proofs.YtbmkhdeeengbmaaW.PrintWords Go.Proofs.YtbmkhdeeengbmaaW.PrintLast Go.Proofs.YtbmkhdeeengbmaaW.PrintMore

/-- The states of a race's table, and their places. -/
def okS (n : Int) (s : Nat × Nat) : Prop := Two n.toNat s.1 s.2 ∧ (pop s.1 = pop s.2 ∨ pop s.1 = pop s.2 + 1)
def plS (n : Int) (s : Nat × Nat) : Nat := pl3 s.1 s.2 n.toNat
theorem plS_inj (n : Int) (s s' : Nat × Nat) (h : okS n s) (h' : okS n s') (e : plS n s = plS n s') : s = s' := by
  obtain ⟨a, b⟩ := s
  obtain ⟨c, d⟩ := s'
  obtain ⟨rfl, rfl⟩ := pl3_inj h.1 h'.1 e
  rfl
theorem plS_lt (n : Int) (s : Nat × Nat) (h : okS n s) : plS n s < 3 ^ n.toNat := pl3_lt s.1 s.2 h.1.2.2 n.toNat
/-- The result of a state for the player who is to take a node, and behind a node. -/
def rv (n : Int) (L : List Int) (a b : Nat) : Int := if pop a = pop b then rc n L a b else rc n L b a
def bs (n : Int) (L : List Int) (a b : Nat) (p : Int) : Int := if pop a = pop b then bh L (rc n L) a b p else bh L (rc n L) b a p
theorem rv_small (n : Int) (L : List Int) (a b : Nat) : -1 ≤ rv n L a b ∧ rv n L a b ≤ 1 := by
  unfold rv
  split
  · exact rc_small n L a b
  · exact rc_small n L b a
theorem rv_eq (n : Int) (L : List Int) (a b : Nat) : rv n L a b = if freeN n a b = [] then 0 else (freeN n a b).foldl (fun m p => mx m (bs n L a b p)) (-1) := by
  unfold rv bs
  by_cases c : pop a = pop b
  · simp only [if_pos c]
    rw [rc_eq]
    rfl
  · simp only [if_neg c]
    rw [rc_eq, freeN_swap n a b]
    rfl
def TabR (n : Int) (L : List Int) (t : List Int) : Prop := Tab (okS n) (plS n) (fun s => rv n L s.1 s.2 + 2) (3 ^ n.toNat) t
theorem TabR.new (n : Int) (L : List Int) : TabR n L (List.replicate (3 ^ n.toNat) 0) := Tab.new (fun s h => plS_lt n s h)
theorem TabR.put {n : Int} {L t : List Int} (h : TabR n L t) (a b : Nat) (hs : okS n (a, b)) (v : Int) (hv : v = rv n L a b + 2) : TabR n L (t.set (pl3 a b n.toNat) v) := by
  rw [hv]
  exact Tab.set h (plS_inj n) (a, b) hs
theorem TabR.at {n : Int} {L t : List Int} (h : TabR n L t) (a b : Nat) (hs : okS n (a, b)) : (pl3 a b n.toNat : Int) < t.length ∧ (rd t (pl3 a b n.toNat : Int) = 0 ∨ rd t (pl3 a b n.toNat : Int) = rv n L a b + 2) := by
  obtain ⟨h1, h2⟩ := h.2 _ hs
  refine ⟨by rw [h.1]; exact_mod_cast h1, ?_⟩
  unfold rd
  rw [Int.toNat_natCast]
  exact h2
theorem okS.left {n : Int} {a b : Nat} (h : okS n (a, b)) (hn : n ≤ 16) (L : List Int) (p : Int) (hp : p ∈ freeN n a b) (e : pop a = pop b) : okS n (B.put a p, b) ∧ rv n L (B.put a p) b = rc n L b (B.put a p) ∧ fr (B.put a p) b n.toNat < fr a b n.toNat := by
  obtain ⟨h0, h1, h2⟩ := (mem_freeN p).1 hp
  have hq := pop_put a p (by omega) ((dg_zero a b p.toNat).1 h2).1
  have hf := put_fr hp
  refine ⟨⟨put_two hp h.1, .inr ?_⟩, ?_, by omega⟩
  · show pop (B.put a p) = pop b + 1
    omega
  · unfold rv
    rw [if_neg (by omega)]
theorem okS.right {n : Int} {a b : Nat} (h : okS n (a, b)) (hn : n ≤ 16) (L : List Int) (p : Int) (hp : p ∈ freeN n a b) (e : ¬ pop a = pop b) : okS n (a, B.put b p) ∧ rv n L a (B.put b p) = rc n L a (B.put b p) ∧ fr a (B.put b p) n.toNat < fr a b n.toNat := by
  obtain ⟨h0, h1, h2⟩ := (mem_freeN p).1 hp
  have hq := pop_put b p (by omega) ((dg_zero a b p.toNat).1 h2).2
  have hp2 : p ∈ freeN n b a := by rw [freeN_swap]; exact hp
  have hf := put_fr hp2
  rw [fr_swap a (B.put b p), fr_swap a b] at hf
  have h3 : pop a = pop b + 1 := by
    rcases h.2 with c | c
    · exact absurd c e
    · exact c
  refine ⟨⟨(put_two hp2 h.1.swap).swap, .inl ?_⟩, ?_, by omega⟩
  · show pop a = pop (B.put b p)
    omega
  · unfold rv
    rw [if_pos (by omega)]
section
variable {n : Int} {L : List Int} (hb : boardB n L = true)
include hb
variable (hn : n ≤ 9)
include hn
theorem behind_spec (S : Nat → Int → List Int → Int → Int → List Int → Option (Int × List Int)) (a b : Nat) (h : okS n (a, b)) (p : Int) (hp : p ∈ freeN n a b) (T : List Int) (hT : TabR n L T)
    (ih : ∀ a' b' : Nat, okS n (a', b') → fr a' b' n.toNat < fr a b n.toNat → ∃ T', Ev (fun k => S k n L a' b' T) (rv n L a' b', T') ∧ TabR n L T') :
    ∃ T', Ev (fun k => spec_l07Behind.F (S k) k n L a b p T) (bs n L a b p, T') ∧ TabR n L T' := by
  obtain ⟨b1, b2, b3⟩ := (boardB_iff n L).1 hb
  obtain ⟨h0, h1, h2⟩ := (mem_freeN p).1 hp
  obtain ⟨ha16, hb16⟩ := h.1.le16 (by omega)
  have o1 := ones_eq (a : Int) (by omega) (by omega)
  have o2 := ones_eq (b : Int) (by omega) (by omega)
  unfold popI at o1 o2
  rw [Int.toNat_natCast] at o1 o2
  have w1 := withN_put a p (by omega) h0 (by omega)
  have w2 := withN_put b p (by omega) h0 (by omega)
  unfold withN at w1 w2
  unfold spec_l07Behind.F
  rw [u64_at p h0 (by omega), w1, w2]
  by_cases e : pop a = pop b
  · obtain ⟨k1, k2, k3⟩ := h.left (by omega) L p hp e
    by_cases c : fl L (B.put a p) = true
    · refine ⟨T, evT h0 (evB o1 (evB o2 (evT (by omega) (evB (fills_spec hb (B.put a p)) (evT c (evE ?_ (evS _))))))), hT⟩
      simp [bs, bh, e, c]
    · obtain ⟨T', h3, h4⟩ := ih _ _ k1 k3
      have hr := rc_small n L b (B.put a p)
      rw [k2] at h3
      refine ⟨T', evT h0 (evB o1 (evB o2 (evT (by omega) (evB (fills_spec hb (B.put a p)) (evF c (evB h3 (evE ?_ (evS _)))))))), h4⟩
      simp only [bs, bh]
      rw [if_pos e, if_neg c, wrap_in (by omega) (by omega)]
  · obtain ⟨k1, k2, k3⟩ := h.right (by omega) L p hp e
    by_cases c : fl L (B.put b p) = true
    · refine ⟨T, evT h0 (evB o1 (evB o2 (evF (by omega) (evB (fills_spec hb (B.put b p)) (evT c (evE ?_ (evS _))))))), hT⟩
      simp [bs, bh, e, c]
    · obtain ⟨T', h3, h4⟩ := ih _ _ k1 k3
      have hr := rc_small n L a (B.put b p)
      rw [k2] at h3
      refine ⟨T', evT h0 (evB o1 (evB o2 (evF (by omega) (evB (fills_spec hb (B.put b p)) (evF c (evB h3 (evE ?_ (evS _)))))))), h4⟩
      simp only [bs, bh]
      rw [if_neg e, if_neg c, wrap_in (by omega) (by omega)]
theorem race_l (a b : Nat) (h : okS n (a, b)) (ihb : ∀ p ∈ freeN n a b, ∀ T, TabR n L T → ∃ T', Ev (fun k => spec_l07Behind.F (spec_l07Race.f k) k n L a b p T) (bs n L a b p, T') ∧ TabR n L T') (d : Nat) :
    ∀ (i : Int) (T : List Int) (best : Int) (free : Bool), 0 ≤ i → i + d = n → TabR n L T →
      (if free = true ∨ (seg i d).filter (fun p => dg a b p.toNat == 0) ≠ [] then ((seg i d).filter (fun p => dg a b p.toNat == 0)).foldl (fun m p => mx m (bs n L a b p)) best else 0) = rv n L a b →
      ∃ T', Ev (fun k => spec_l07Race.l0 k a b T (pl3 a b n.toNat : Int) best free i n L) (rv n L a b, T') ∧ TabR n L T' := by
  obtain ⟨b1, b2, b3⟩ := (boardB_iff n L).1 hb
  obtain ⟨ha16, hb16⟩ := h.1.le16 (by omega)
  have hrv := rv_small n L a b
  induction d with
  | zero =>
    intro i T best free h0 h1 hT hv
    obtain ⟨t1, _⟩ := hT.at a b h
    simp only [seg, List.filter_nil, ne_eq, not_true_eq_false, or_false, List.foldl_nil] at hv
    refine ⟨T.set (pl3 a b n.toNat) (rv n L a b + 2), ?_, hT.put a b h _ rfl⟩
    refine evSucc (fun k => by rw [spec_l07Race.l0]) ?_
    cases free with
    | true =>
      rw [if_pos rfl] at hv
      rw [hv]
      refine evF (by omega) ?_
      refine evT rfl ?_
      refine evT (by omega) ?_
      refine evT t1 ?_
      rw [Int.toNat_natCast, wrap_in (by omega) (by omega), i8_at _ (by omega) (by omega)]
      exact evS _
    | false =>
      rw [if_neg (by simp)] at hv
      refine evF (by omega) ?_
      refine evF (by simp) ?_
      refine evT (by omega) ?_
      refine evT t1 ?_
      rw [Int.toNat_natCast, ← hv]
      exact evS _
  | succ d ih =>
    intro i T best free h0 h1 hT hv
    have hw : wrap64 (i + 1) = i + 1 := wrap_in (by omega) (by omega)
    have hor := or_dig a b i ha16 hb16 h0 (by omega)
    by_cases c : dg a b i.toNat = 0
    · have hmem : i ∈ freeN n a b := (mem_freeN i).2 ⟨h0, by omega, c⟩
      obtain ⟨T1, h2, h3⟩ := ihb i hmem T hT
      have e : (seg i (d + 1)).filter (fun p => dg a b p.toNat == 0) = i :: (seg (i + 1) d).filter (fun p => dg a b p.toNat == 0) := by simp [seg, c]
      rw [e, if_pos (.inr (by simp)), List.foldl_cons] at hv
      obtain ⟨T', h4, h5⟩ := ih (i + 1) T1 (mx best (bs n L a b i)) true (by omega) (by omega) h3 (by rw [if_pos (.inl rfl)]; exact hv)
      refine ⟨T', ?_, h5⟩
      refine evSucc (fun k => by rw [spec_l07Race.l0]) ?_
      rw [u64_at i h0 (by omega), hw]
      clear hv
      generalize bs n L a b i = v at h2 h4
      exact evT (by omega) (evT h0 (evT (hor.2 c) (evB h2 h4)))
    · have e : (seg i (d + 1)).filter (fun p => dg a b p.toNat == 0) = (seg (i + 1) d).filter (fun p => dg a b p.toNat == 0) := by simp [seg, c]
      rw [e] at hv
      obtain ⟨T', h4, h5⟩ := ih (i + 1) T best free (by omega) (by omega) hT hv
      refine ⟨T', ?_, h5⟩
      refine evSucc (fun k => by rw [spec_l07Race.l0]) ?_
      rw [u64_at i h0 (by omega), hw]
      exact evT (by omega) (evT h0 (evF (fun g => c (hor.1 g)) h4))
theorem race_spec (m : Nat) : ∀ (a b : Nat) (T : List Int), okS n (a, b) → fr a b n.toNat < m → TabR n L T → ∃ T', Ev (fun k => spec_l07Race.f k n L a b T) (rv n L a b, T') ∧ TabR n L T' := by
  obtain ⟨b1, b2, b3⟩ := (boardB_iff n L).1 hb
  induction m with
  | zero => intro a b T h hm; omega
  | succ m ihm =>
    intro a b T h hm hT
    obtain ⟨h1, h2⟩ := hT.at a b h
    have hpl := place_spec n L a b ⟨by omega, hn⟩ h.1
    have hr := rv_small n L a b
    by_cases hk : rd T (pl3 a b n.toNat : Int) > 0
    · refine ⟨T, ?_, hT⟩
      refine evSucc (fun k => by rw [spec_l07Race.f]) ?_
      refine evB hpl (evT (by omega) (evT h1 (evT hk (evE ?_ (evS _)))))
      have hv : rd T (pl3 a b n.toNat : Int) = rv n L a b + 2 := by
        rcases h2 with h2 | h2
        · exact absurd h2 (by omega)
        · exact h2
      rw [hv, wrap_in (x := rv n L a b + 2) (by omega) (by omega), wrap_in (by omega) (by omega), show rv n L a b + 2 - 2 = rv n L a b by omega]
    · obtain ⟨T', h3, h4⟩ := race_l hb hn a b h (fun p hp T hT => behind_spec hb hn spec_l07Race.f a b h p hp T hT (fun a' b' h' hlt => ihm a' b' T h' (by omega) hT)) n.toNat 0 T (-1) false (by omega) (by omega) hT (by
        rw [rv_eq]
        unfold freeN
        by_cases e : (seg 0 n.toNat).filter (fun p => dg a b p.toNat == 0) = []
        · rw [if_neg (by simp [e]), if_pos e]
        · rw [if_pos (.inr e), if_neg e])
      refine ⟨T', ?_, h4⟩
      refine evSucc (fun k => by rw [spec_l07Race.f]) ?_
      exact evB hpl (evT (by omega) (evT h1 (evF hk h3)))
/-- The nodes that keep the result. -/
def keepN (n : Int) (L : List Int) (a b : Nat) (l : List Int) : List Int := l.filter fun p => bs n L a b p == rv n L a b
omit hb hn in
theorem keepN_cons (a b : Nat) (p : Int) (l : List Int) : keepN n L a b (p :: l) = if bs n L a b p = rv n L a b then p :: keepN n L a b l else keepN n L a b l := by
  unfold keepN
  rw [List.filter_cons]
  simp
theorem best_l (a b : Nat) (h : okS n (a, b)) (d : Nat) : ∀ (i : Int) (T acc : List Int), 0 ≤ i → i + d = n → (acc.length : Int) ≤ i → TabR n L T →
    ∃ T', Ev (fun k => spec_l07Best.l0 k a b T (rv n L a b) acc i n L) (acc ++ keepN n L a b ((seg i d).filter (fun p => dg a b p.toNat == 0)), T') ∧ TabR n L T' := by
  obtain ⟨b1, b2, b3⟩ := (boardB_iff n L).1 hb
  obtain ⟨ha16, hb16⟩ := h.1.le16 (by omega)
  induction d with
  | zero =>
    intro i T acc h0 h1 hacc hT
    refine ⟨T, ?_, hT⟩
    refine evSucc (fun k => by rw [spec_l07Best.l0]) ?_
    exact evF (by omega) (evE (by simp [seg, keepN]) (evS _))
  | succ d ih =>
    intro i T acc h0 h1 hacc hT
    have hw : wrap64 (i + 1) = i + 1 := wrap_in (by omega) (by omega)
    have hor := or_dig a b i ha16 hb16 h0 (by omega)
    by_cases c : dg a b i.toNat = 0
    · have hmem : i ∈ freeN n a b := (mem_freeN i).2 ⟨h0, by omega, c⟩
      have e : (seg i (d + 1)).filter (fun p => dg a b p.toNat == 0) = i :: (seg (i + 1) d).filter (fun p => dg a b p.toNat == 0) := by simp [seg, c]
      rw [e, keepN_cons]
      obtain ⟨T1, h2, h3⟩ := behind_spec hb hn spec_l07Race.f a b h i hmem T hT (fun a' b' h' _ => race_spec hb hn (fr a' b' n.toNat + 1) a' b' T h' (by omega) hT)
      have h2' : Ev (fun k => spec_l07Behind.f k n L a b i T) (bs n L a b i, T1) := h2
      by_cases g : bs n L a b i = rv n L a b
      · rw [if_pos g]
        obtain ⟨T', h4, h5⟩ := ih (i + 1) T1 (acc ++ [i]) (by omega) (by omega) (by simp; omega) h3
        refine ⟨T', ?_, h5⟩
        refine evSucc (fun k => by rw [spec_l07Best.l0]) ?_
        rw [u64_at i h0 (by omega), hw]
        generalize rv n L a b = r at g h4 ⊢
        generalize bs n L a b i = v at h2' g
        exact evT (by omega) (evT h0 (evT (hor.2 c) (evB h2' (evT g (evT (by omega) (evE (by simp) h4))))))
      · rw [if_neg g]
        obtain ⟨T', h4, h5⟩ := ih (i + 1) T1 acc (by omega) (by omega) (by omega) h3
        refine ⟨T', ?_, h5⟩
        refine evSucc (fun k => by rw [spec_l07Best.l0]) ?_
        rw [u64_at i h0 (by omega), hw]
        generalize rv n L a b = r at g h4 ⊢
        generalize bs n L a b i = v at h2' g
        exact evT (by omega) (evT h0 (evT (hor.2 c) (evB h2' (evF g h4))))
    · have e : (seg i (d + 1)).filter (fun p => dg a b p.toNat == 0) = (seg (i + 1) d).filter (fun p => dg a b p.toNat == 0) := by simp [seg, c]
      rw [e]
      obtain ⟨T', h4, h5⟩ := ih (i + 1) T acc (by omega) (by omega) (by omega) hT
      refine ⟨T', ?_, h5⟩
      refine evSucc (fun k => by rw [spec_l07Best.l0]) ?_
      rw [u64_at i h0 (by omega), hw]
      exact evT (by omega) (evT h0 (evF (fun g => c (hor.1 g)) h4))
theorem best_spec (a b : Nat) (h : okS n (a, b)) (T : List Int) (hT : TabR n L T) : ∃ T', Ev (fun k => spec_l07Best.f k n L a b T) (keepN n L a b (freeN n a b), T') ∧ TabR n L T' := by
  obtain ⟨b1, b2, b3⟩ := (boardB_iff n L).1 hb
  obtain ⟨T1, h1, h2⟩ := race_spec hb hn (fr a b n.toNat + 1) a b T h (by omega) hT
  obtain ⟨T', h3, h4⟩ := best_l hb hn a b h n.toNat 0 T1 [] (by omega) (by omega) (by simp) h2
  refine ⟨T', ?_, h4⟩
  unfold spec_l07Best.f
  rw [List.nil_append] at h3
  unfold freeN
  generalize keepN n L a b _ = l at h3 ⊢
  generalize rv n L a b = r at h1 h3
  exact evB h1 h3
end
end Go.Proofs.Ytbmkhdeeengbmaa.B

namespace Go.Proofs.Ytbmkhdeeengbmaa.B
open Go.RowKit Go.Proofs.Ytbmkhdeeengbmaa.Q Go.Proofs.YtbmkhdeeengbmaaW.PrintWords Go.Proofs.YtbmkhdeeengbmaaW.PrintLast Go.Proofs.YtbmkhdeeengbmaaW.PrintMore

/-- A state from the side of the player who is to take a node. -/
def sd (a b : Nat) : Nat × Nat := if pop a = pop b then (a, b) else (b, a)
theorem sd_rv (n : Int) (L : List Int) (a b : Nat) : rv n L a b = rc n L (sd a b).1 (sd a b).2 := by
  unfold rv sd
  by_cases c : pop a = pop b
  · rw [if_pos c, if_pos c]
  · rw [if_neg c, if_neg c]
theorem sd_free (n : Int) (a b : Nat) : freeN n a b = freeN n (sd a b).1 (sd a b).2 := by
  unfold sd
  by_cases c : pop a = pop b
  · rw [if_pos c]
  · rw [if_neg c]
    exact freeN_swap n b a
theorem sd_two {n : Nat} {a b : Nat} (h : Two n a b) : Two n (sd a b).1 (sd a b).2 := by
  unfold sd
  by_cases c : pop a = pop b
  · rw [if_pos c]; exact h
  · rw [if_neg c]; exact h.swap
theorem sd_fr (a b n : Nat) : fr (sd a b).1 (sd a b).2 n = fr a b n := by
  unfold sd
  by_cases c : pop a = pop b
  · rw [if_pos c]
  · rw [if_neg c]; exact fr_swap a b n
/-- The best nodes for the player who is to take one. -/
def bestO (n : Int) (L : List Int) (o t : Nat) : List Int := (freeN n o t).filter fun p => bh L (rc n L) o t p == rc n L o t
theorem keepN_sd (n : Int) (L : List Int) (a b : Nat) : keepN n L a b (freeN n a b) = bestO n L (sd a b).1 (sd a b).2 := by
  unfold keepN bestO
  rw [sd_rv, ← sd_free]
  unfold bs sd
  by_cases c : pop a = pop b
  · simp only [if_pos c]
  · simp only [if_neg c]
section
variable {n : Int} {L : List Int} (hb : boardB n L = true) (hn : n ≤ 9)
include hb hn
theorem best_impl (o t : Nat) (h : Two n.toNat o t) (hne : freeN n o t ≠ []) : Ev (fun k => bestF k n L 20 o t) (bestO n L o t) := by
  obtain ⟨b1, b2, b3⟩ := (boardB_iff n L).1 hb
  have hfr := fr_le o t n.toNat
  unfold bestF bestO
  refine evG (free_impl n L b1 o t h) (evE ?_ (delP_ev _ (fun p => bh L (rc n L) o t p != rc n L o t) _ (fun p hp => ?_)))
  · congr 1
    funext p
    generalize bh L (rc n L) o t p = x
    generalize rc n L o t = y
    cases hq : (x == y) <;> simp_all
  · have hf := put_fr hp
    have h2 := put_two hp h
    unfold worseP
    have e1 := behind_impl hb o t h p hp (fun k => raceF k n L 20) (fun hne2 => race_impl hb 20 t (put o p) h2.swap hne2 (by rw [fr_swap (put o p) t]; omega))
    have e2 := race_impl hb 20 o t h hne (by omega)
    generalize bh L (rc n L) o t p = x at e1 ⊢
    generalize rc n L o t = y at e2 ⊢
    exact evB e1 (evB e2 (evS _))
end
theorem fold_at (g : Int → Int) (l : List Int) : ∀ b : Int, l.foldl (fun b e => mx b (g e)) b = b ∨ ∃ x ∈ l, l.foldl (fun b e => mx b (g e)) b = g x := by
  induction l with
  | nil => intro b; exact .inl rfl
  | cons y l ih =>
    intro b
    simp only [List.foldl_cons]
    rcases ih (mx b (g y)) with h | ⟨x, hx, h⟩
    · rw [h]
      unfold mx
      split
      · exact .inr ⟨y, List.mem_cons_self, rfl⟩
      · exact .inl rfl
    · exact .inr ⟨x, List.mem_cons_of_mem _ hx, h⟩
theorem fold_one (g : Int → Int) (l : List Int) (lo : Int) (hl : l ≠ []) (h : ∀ x ∈ l, lo ≤ g x) : ∃ x ∈ l, l.foldl (fun b e => mx b (g e)) lo = g x := by
  cases l with
  | nil => exact absurd rfl hl
  | cons y l =>
    simp only [List.foldl_cons]
    have h0 := h y List.mem_cons_self
    have e : mx lo (g y) = g y := by unfold mx; split <;> omega
    rw [e]
    rcases fold_at g l (g y) with h | ⟨x, hx, h⟩
    · exact ⟨y, List.mem_cons_self, h⟩
    · exact ⟨x, List.mem_cons_of_mem _ hx, h⟩
theorem bestO_cons {n : Int} {L : List Int} {o t : Nat} (hf : freeN n o t ≠ []) : ∃ p rest, bestO n L o t = p :: rest ∧ p ∈ freeN n o t := by
  obtain ⟨x, hx, he⟩ := fold_one (bh L (rc n L) o t) _ (-1) hf (fun p _ => (bh_small n L o t p).1)
  have h1 := rc_eq n L o t
  rw [if_neg hf] at h1
  have hm : x ∈ bestO n L o t := List.mem_filter.2 ⟨hx, beq_iff_eq.2 (he.symm.trans h1.symm)⟩
  cases hq : bestO n L o t with
  | nil => rw [hq] at hm; cases hm
  | cons p rest => exact ⟨p, rest, rfl, (List.mem_filter.1 (show p ∈ bestO n L o t by rw [hq]; exact List.mem_cons_self)).1⟩
end Go.Proofs.Ytbmkhdeeengbmaa.B
