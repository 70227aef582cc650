/-
  The play of a race: program and reference come to the same. Boards alone, as the facts ask.
-/
import Derived.Test.YtbmkhdeeengbmaaRaceP
import Derived.Test.YtbmkhdeeengbmaaBoard
import Derived.Test.YtbmkhdeeengbmaaRacePlay
import Derived.Test.YtbmkhdeeengbmaaQ6b
namespace Go.Proofs.Ytbmkhdeeengbmaa.B
open Go.RowKit Go.Proofs.Ytbmkhdeeengbmaa.Q Go.Proofs.YtbmkhdeeengbmaaW.PrintWords Go.Proofs.YtbmkhdeeengbmaaW.PrintLast Go.Proofs.YtbmkhdeeengbmaaW.PrintMore

/-- The play, at most d nodes more. -/
def playM (n : Int) (L : List Int) : Nat → Nat → Nat → List Int
  | 0, _, _ => []
  | d + 1, o, t => if fl L t = true then [] else match bestO n L o t with
    | [] => []
    | p :: _ => p :: playM n L d t (put o p)
theorem playM_len (n : Int) (L : List Int) (d : Nat) : ∀ o t, (playM n L d o t).length ≤ d := by
  induction d with
  | zero => intro o t; simp [playM]
  | succ d ih =>
    intro o t
    simp only [playM]
    split
    · simp
    · split
      · simp
      · rename_i p _ _
        have := ih t (put o p)
        simp
        omega
theorem playM_stop (n : Int) (L : List Int) (d o t : Nat) (h : fl L t = true) : playM n L d o t = [] := by
  cases d with
  | zero => rfl
  | succ d => simp only [playM]; rw [if_pos h]
section
variable {n : Int} {L : List Int} (hb : boardB n L = true) (hn : n ≤ 9)
include hb hn
theorem play_impl (m : Nat) : ∀ (o t d : Nat) (acc : List Int), Two n.toNat o t → fr o t n.toNat = m → m < d → acc.length + m ≤ 9 → Ev (fun k => playL k n L d o t acc) (acc ++ playM n L m o t) := by
  obtain ⟨b1, b2, b3⟩ := (boardB_iff n L).1 hb
  induction m with
  | zero =>
    intro o t d acc h hm hd hacc
    obtain ⟨d, rfl⟩ : ∃ x, d = x + 1 := ⟨d - 1, by omega⟩
    obtain ⟨ho, ht⟩ := h.le16 (by omega)
    have hf : freeN n o t = [] := freeN_nil.2 hm
    simp only [playL]
    refine evB (filled_impl n L t hb (by omega) (by omega)) ?_
    by_cases c : fillF L t L.length 0 = 0
    · exact evT c (evG (free_impl n L b1 o t h) (evT (by rw [hf]; rfl) (evE (by simp [playM]) (evS _))))
    · exact evF c (evE (by simp [playM]) (evS _))
  | succ m ih =>
    intro o t d acc h hm hd hacc
    obtain ⟨d, rfl⟩ : ∃ x, d = x + 1 := ⟨d - 1, by omega⟩
    obtain ⟨ho, ht⟩ := h.le16 (by omega)
    have hf : freeN n o t ≠ [] := fun z => by have := freeN_nil.1 z; omega
    simp only [playL]
    refine evB (filled_impl n L t hb (by omega) (by omega)) ?_
    by_cases c : fillF L t L.length 0 = 0
    · obtain ⟨p, rest, hq, hp⟩ := bestO_cons (L := L) hf
      obtain ⟨h0, h1, h2⟩ := (mem_freeN p).1 hp
      have hfr := put_fr hp
      have h3 := put_two hp h
      have hB := best_impl hb hn o t h hf
      rw [hq] at hB
      have hl : ¬ (freeN n o t).length = 0 := fun z => hf (List.eq_nil_of_length_eq_zero z)
      have hrd : rd (p :: rest) 0 = p := rfl
      have h4 := ih t (put o p) d (acc ++ [p]) h3.swap (by rw [fr_swap (put o p) t]; omega) (by omega) (by simp; omega)
      refine evT c (evG (free_impl n L b1 o t h) (evF hl (evB hB ?_)))
      rw [hrd, withN_put o p ho h0 (by omega)]
      refine evT ⟨by simp, h0, by omega⟩ (evE ?_ h4)
      have hfl : ¬ fl L t = true := by unfold fl; simp [c]
      simp only [playM]
      rw [if_neg hfl, hq]
      simp
    · refine evF c (evE ?_ (evS _))
      have hfl : fl L t = true := by unfold fl; simp [c]
      rw [playM_stop n L _ o t hfl]
      simp
theorem play_spec (m : Nat) : ∀ (a b : Nat) (acc T : List Int), okS n (a, b) → fl L (sd a b).1 = false → fr a b n.toNat = m → acc.length = pop a + pop b → acc.length + m = n.toNat → TabR n L T →
    Ev (fun k => spec_PlayRace.l0 k T acc a b n L) (acc ++ playM n L m (sd a b).1 (sd a b).2, 0) := by
  obtain ⟨b1, b2, b3⟩ := (boardB_iff n L).1 hb
  have stop : ∀ (acc T : List Int) (a b : Nat), Ev (fun k => spec_PlayRace.j1 k T acc a b false n L) (acc, 0) := fun acc T a b => by
    refine evSucc (fun k => by rw [spec_PlayRace.j1]) ?_
    exact evF (by simp) (evS _)
  induction m with
  | zero =>
    intro a b acc T h hfo hm hpop hacc hT
    refine evSucc (fun k => by rw [spec_PlayRace.l0]) ?_
    exact evF (by omega) (evE (by simp [playM]) (stop acc T a b))
  | succ m ih =>
    intro a b acc T h hfo hm hpop hacc hT
    have ha := fills_spec hb a
    have hbb := fills_spec hb b
    obtain ⟨ha16, hb16⟩ := h.1.le16 (by omega)
    refine evSucc (fun k => by rw [spec_PlayRace.l0]) ?_
    refine evT (by omega) (evB ha ?_)
    by_cases hft : fl L (sd a b).2 = true
    · rw [playM_stop n L _ _ _ hft, List.append_nil]
      by_cases ca : fl L a = true
      · exact evT ca (stop acc T a b)
      · have cb : fl L b = true := by
          unfold sd at hft
          split at hft
          · exact hft
          · exact absurd hft ca
        rw [cb] at hbb
        exact evF ca (evB hbb (stop acc T a b))
    · have hfa : fl L a = false := by
        unfold sd at hft hfo
        split at hft
        · rename_i e
          rw [if_pos e] at hfo
          exact hfo
        · simpa using hft
      have hfb : fl L b = false := by
        unfold sd at hft hfo
        split at hft
        · simpa using hft
        · rename_i e
          rw [if_neg e] at hfo
          exact hfo
      rw [hfb] at hbb
      have hf : freeN n a b ≠ [] := fun z => by have := freeN_nil.1 z; omega
      have hf2 : freeN n (sd a b).1 (sd a b).2 ≠ [] := by rw [← sd_free]; exact hf
      obtain ⟨p, rest, hq, hp⟩ := bestO_cons (L := L) hf2
      rw [← sd_free] at hp
      obtain ⟨h0, h1, h2⟩ := (mem_freeN p).1 hp
      obtain ⟨T', h3, h4⟩ := best_spec hb hn a b h T hT
      rw [keepN_sd, hq] at h3
      have hrd : rd (p :: rest) 0 = p := rfl
      have w1 := withN_put a p (by omega) h0 (by omega)
      have w2 := withN_put b p (by omega) h0 (by omega)
      unfold withN at w1 w2
      have hbits := (dg_zero a b p.toNat).1 h2
      refine evF (by rw [hfa]; simp) (evB hbb ?_)
      refine evSucc (fun k => by rw [spec_PlayRace.j1]) ?_
      refine evT rfl (evB h3 (evT (by simp) ?_))
      rw [hrd, u64_at p h0 (by omega), w1, w2]
      have hgo : ∀ a' b' : Nat, sd a' b' = ((sd a b).2, put (sd a b).1 p) → okS n (a', b') → fr a' b' n.toNat = m → acc.length + 1 = pop a' + pop b' → Ev (fun k => spec_PlayRace.l0 k T' (acc ++ [p]) a' b' n L) (acc ++ playM n L (m + 1) (sd a b).1 (sd a b).2, 0) := by
        intro a' b' hs hok hfr hpp
        have h5 := ih a' b' (acc ++ [p]) T' hok (by rw [hs]; simpa using hft) hfr (by simp; omega) (by simp; omega) h4
        refine evE ?_ h5
        rw [hs]
        simp only [playM]
        rw [if_neg hft, hq]
        simp
      have hfr2 : fr (sd a b).2 (put (sd a b).1 p) n.toNat = m := by
        have hp3 : p ∈ freeN n (sd a b).1 (sd a b).2 := by rw [← sd_free]; exact hp
        have := put_fr hp3
        rw [sd_fr] at this
        rw [fr_swap (put (sd a b).1 p) (sd a b).2]
        omega
      by_cases e : pop a = pop b
      · obtain ⟨k1, _, _⟩ := h.left (by omega) L p hp e
        have hpp := pop_put a p (by omega) hbits.1
        have hsd : sd a b = (a, b) := by unfold sd; rw [if_pos e]
        have hsd2 : sd (put a p) b = (b, put a p) := by unfold sd; rw [if_neg (by omega)]
        rw [hsd] at hfr2
        refine evT (by omega) (evT h0 (evT (by omega) (hgo _ _ (by rw [hsd, hsd2]) k1 ?_ (by omega))))
        rw [fr_swap b (put a p)]
        exact hfr2
      · obtain ⟨k1, _, _⟩ := h.right (by omega) L p hp e
        have hpp := pop_put b p (by omega) hbits.2
        have hsd : sd a b = (b, a) := by unfold sd; rw [if_neg e]
        have h6 : pop a = pop b + 1 := by
          rcases h.2 with c | c
          · exact absurd c e
          · exact c
        have hsd2 : sd a (put b p) = (a, put b p) := by unfold sd; rw [if_pos (by omega)]
        rw [hsd] at hfr2
        exact evF (by omega) (evT h0 (evT (by omega) (hgo _ _ (by rw [hsd, hsd2]) k1 hfr2 (by omega))))
end
end Go.Proofs.Ytbmkhdeeengbmaa.B
