/-
  CountRoutes: the reference's ways, told by lists of ends.
-/
import Derived.Test.YtjblefcdihmdbaaDoorMetPure
import Derived.Test.YtjblefcdihmdbaaDoorRoutesPure
import Derived.Test.YtjblefcdihmdbaaDoorQ7
namespace Go.Proofs.YtjblefcdihmdbaaDoor.B
open Go.RowKit Go.Proofs.YtjblefcdihmdbaaDoor.Q Go.Proofs.YtjblefcdihmdbaaDoorW.PrintWords Go.Proofs.YtjblefcdihmdbaaDoorW.PrintLast
set_option linter.unusedVariables false

def toS (q : Q4) : S28 := ⟨q.1, q.2.1, q.2.2.1, q.2.2.2⟩
/-- How many routes end at each car. -/
structure Ways (ways : List Int) (R : List Q4) : Prop where
  len : ways.length = 30976
  eq : ∀ q, InR q → rd ways (numQ q) = (R.count q : Int)
theorem ways_zero : Ways (List.replicate 30976 0) [] := by
  refine ⟨List.length_replicate, fun q hq => ?_⟩
  have := numQ_range hq
  unfold rd
  rw [List.getD_eq_getElem?_getD, List.getElem?_replicate, if_pos (by omega)]
  rfl
theorem Ways.add {ways : List Int} {N : List Q4} (h : Ways ways N) {n : Q4} (hn : InR n) (own : Nat) : Ways (ways.set (numQ n).toNat ((N.count n : Int) + own)) (N ++ List.replicate own n) := by
  refine ⟨by rw [List.length_set]; exact h.len, fun q hq => ?_⟩
  have r1 := numQ_range hq
  have r2 := numQ_range hn
  have := h.eq q hq
  unfold rd at this ⊢
  rw [List.getD_eq_getElem?_getD] at this ⊢
  rw [List.getElem?_set, count_more]
  by_cases c : (numQ n).toNat = (numQ q).toNat
  · have e : n = q := numQ_inj hn hq (by omega)
    subst e
    rw [if_pos rfl, if_pos (by rw [h.len]; omega), if_pos rfl]
    simp
  · rw [if_neg c, this, if_neg (fun e => c (by rw [e]))]
    simp
/-- The cars that have routes, each once. -/
structure Cars (ks R : List Q4) : Prop where
  nodup : ks.Nodup
  mem : ∀ q, q ∈ ks ↔ q ∈ R
theorem Cars.old {ks N : List Q4} (h : Cars ks N) {n : Q4} (hn : n ∈ N) (own : Nat) : Cars ks (N ++ List.replicate own n) :=
  ⟨h.nodup, fun q => by
    rw [h.mem, List.mem_append, List.mem_replicate]
    exact ⟨Or.inl, fun e => e.elim id (fun e => e.2 ▸ hn)⟩⟩
theorem Cars.new {ks N : List Q4} (h : Cars ks N) {n : Q4} (hn : ¬ n ∈ N) {own : Nat} (ho : 1 ≤ own) : Cars (ks ++ [n]) (N ++ List.replicate own n) := by
  refine ⟨List.nodup_append.2 ⟨h.nodup, by simp, fun a ha c hc => ?_⟩, fun q => ?_⟩
  · obtain rfl := List.mem_singleton.1 hc
    exact fun e => hn ((h.mem a).1 ha |> fun k => e ▸ k)
  · rw [List.mem_append, List.mem_append, h.mem, List.mem_replicate, List.mem_singleton]
    exact ⟨fun e => e.elim Or.inl (fun e => Or.inr ⟨by omega, e⟩), fun e => e.elim Or.inl (fun e => Or.inr e.2)⟩
def notGoal (l : List ByteArray) (q : Q4) : Bool := !goalB l q
theorem cnt_in {l : List ByteArray} (ht : isT l = true) (x1 : Int) (x6 : List Int) (x7 : List (S28)) (x11 : Int) (q : Q4) (hg : Good l q) (own : Nat) (ho : 1 ≤ own) (r : Int × Int) (h11 : 0 ≤ x11 ∧ x11 < x7.length ∧ x11 ≤ 100000) (hx : rd_T28 x7 x11 = toS q) (d : Nat) : ∀ (m : Int) (N ks : List Q4) (nx : List Int) (cnt : Nat), 0 ≤ m → m + d = 9 → Ways nx N → Cars ks N → N.length + own * d ≤ 1000000000000000 → cnt + own * d ≤ 1000000000000000 → ks.length + d ≤ 1000000 →
    (∀ nx' N' ks', (∀ z, N'.count z = N.count z + own * ((((seg m d).filter (openQ l q)).map (nextQ q)).filter (notGoal l)).count z) → Ways nx' N' → Cars ks' N' → N'.length ≤ N.length + own * d → ks'.length ≤ ks.length + d → Ev (fun k => spec_CountRoutes.l1 k l x1 x6 x7 ((cnt + own * (((seg m d).filter (openQ l q)).map (nextQ q)).countP (goalB l) : Nat) : Int) nx' (ks'.map toS) (x11 + 1)) r) →
    Ev (fun k => spec_CountRoutes.l2 k l x1 x6 x7 (cnt : Int) nx (ks.map toS) x11 (own : Int) m) r := by
  induction d with
  | zero =>
    intro m N ks nx cnt hm0 hm hW hC hN hc hk h
    refine evSucc (fun k => by rw [spec_CountRoutes.l2, wrap_in (x := x11 + 1) (by omega) (by omega)]) ?_
    exact evF (by omega) (by simpa [seg] using h nx N ks (fun z => by simp [seg]) hW hC (by omega) (by omega))
  | succ d ih =>
    intro m N ks nx cnt hm0 hm hW hC hN hc hk h
    rw [Nat.mul_add, Nat.mul_one] at hN hc
    refine evSucc (fun k => by rw [spec_CountRoutes.l2, hx, wrap_in (x := m + 1) (by omega) (by omega), wrap_in (x := (cnt : Int) + own) (by omega) (by omega)]) ?_
    refine evT (by omega) (evT h11.1 (evT h11.2.1 (evB (moveQ ht q hg m ⟨hm0, by omega⟩) ?_)))
    simp only [seg, List.filter_cons] at h
    by_cases hop : openQ l q m = true
    · rw [if_pos hop] at h ⊢
      have hgn := open_good hop
      have hR : InR (nextQ q m) := hgn.range ht
      have hnum := numQ_range hR
      have hgs := goal_spec ht hgn
      refine evT rfl (evG hgs ?_)
      simp only [List.map_cons, List.filter_cons, List.countP_cons] at h
      by_cases hgl : goalB l (nextQ q m) = true
      · refine evT hgl ?_
        have e1 : notGoal l (nextQ q m) = false := by simp [notGoal, hgl]
        rw [e1] at h
        simp only [hgl, if_true, Bool.false_eq_true, if_false] at h
        have := ih (m + 1) N ks nx (cnt + own) (by omega) (by omega) hW hC (by omega) (by omega) (by omega) (fun nx' N' ks' h1 h2 h3 h4 h5 => by
          have := h nx' N' ks' h1 h2 h3 (by rw [Nat.mul_add]; omega) (by omega)
          rw [Nat.mul_add, Nat.mul_one] at this
          rw [show cnt + own + own * (((seg (m + 1) d).filter (openQ l q)).map (nextQ q)).countP (goalB l) = cnt + (own * (((seg (m + 1) d).filter (openQ l q)).map (nextQ q)).countP (goalB l) + own) by omega]
          exact this)
        simpa using this
      · refine evF hgl ?_
        have e1 : notGoal l (nextQ q m) = true := by simp [notGoal, hgl]
        have hgf : goalB l (nextQ q m) = false := by simpa using hgl
        rw [e1] at h
        simp only [hgf, if_true, Bool.false_eq_true, if_false, Nat.add_zero] at h
        have hle := List.count_le_length (a := nextQ q m) (l := N)
        have hrd : rd nx (numQ (nextQ q m)) = (N.count (nextQ q m) : Int) := hW.eq _ hR
        have step : ∀ ks2, Cars ks2 (N ++ List.replicate own (nextQ q m)) → ks2.length ≤ ks.length + 1 → Ev (fun k => spec_CountRoutes.l2 k l x1 x6 x7 (cnt : Int) (nx.set (numQ (nextQ q m)).toNat (wrap64 (rd nx (numQ (nextQ q m)) + (own : Int)))) (ks2.map toS) x11 (own : Int) (m + 1)) r := fun ks2 hC2 hl2 => by
          rw [hrd, wrap_in (by omega) (by omega)]
          refine ih (m + 1) (N ++ List.replicate own (nextQ q m)) ks2 _ cnt (by omega) (by omega) (hW.add hR own) hC2 (by simp; omega) (by omega) (by omega) (fun nx' N' ks' h1 h2 h3 h4 h5 => ?_)
          refine h nx' N' ks' (fun z => ?_) h2 h3 (by rw [Nat.mul_add]; simp at h4; omega) (by omega)
          rw [h1, count_more, List.count_cons, Nat.mul_add]
          by_cases cz : nextQ q m = z
          · subst cz
            simp
            omega
          · rw [if_neg cz, if_neg (by simpa using cz)]
            simp
        refine evG (number_eq hR) (evT hnum.1 (evT (by rw [hW.len]; omega) ?_))
        by_cases c0 : nextQ q m ∈ N
        · have hpos := List.count_pos_iff.2 c0
          refine evF (by rw [hrd]; omega) (evG (number_eq hR) (evG (number_eq hR) (evT hnum.1 (evT (by rw [hW.len]; omega) (evT hnum.1 (evT (by rw [hW.len]; omega) ?_))))))
          exact step ks (hC.old c0 own) (by omega)
        · have hz := List.count_eq_zero.2 c0
          refine evT (by rw [hrd, hz]; rfl) (evT (by rw [List.length_map]; omega) (evG (number_eq hR) (evG (number_eq hR) (evT hnum.1 (evT (by rw [hW.len]; omega) (evT hnum.1 (evT (by rw [hW.len]; omega) ?_)))))))
          have := step (ks ++ [nextQ q m]) (hC.new c0 ho) (by simp)
          simpa [toS] using this
    · rw [if_neg hop] at h ⊢
      refine evF (by simp) (ih (m + 1) N ks nx cnt (by omega) (by omega) hW hC (by omega) (by omega) (by omega) (fun nx' N' ks' h1 h2 h3 h4 h5 => h nx' N' ks' h1 h2 h3 (by rw [Nat.mul_add]; omega) (by omega)))
theorem rd_cars2 (pre : List Q4) (q : Q4) (post : List Q4) : rd_T28 ((pre ++ q :: post).map toS) (pre.length : Int) = toS q := by
  unfold rd_T28
  rw [List.getD_eq_getElem?_getD, Int.toNat_natCast, List.getElem?_map, List.getElem?_append_right (Nat.le_refl _)]
  simp
theorem sumT_cons (F : Q4 → Nat) (q : Q4) (l : List Q4) : sumT F (q :: l) = F q + sumT F l := by
  unfold sumT
  simp
theorem cnt_cars {l : List ByteArray} (ht : isT l = true) (x1 : Int) (hx1 : 0 < x1 ∧ x1 ≤ 12) (x6 : List Int) (R : List Q4) (hW6 : Ways x6 R) (hG : ∀ q ∈ R, Good l q ∧ goalB l q = false) (hRl : R.length ≤ 1000000000000000) (r : Int × Int) (post : List Q4) : ∀ (pre N ks : List Q4) (nx : List Int) (cnt : Nat), (∀ q ∈ post, q ∈ R) → pre.length + post.length ≤ 30976 → Ways nx N → Cars ks N → N.length + sumT (fun q => R.count q * 9) post ≤ 1000000000000000 → cnt + sumT (fun q => R.count q * 9) post ≤ 1000000000000000 → ks.length + 9 * post.length ≤ 1000000 →
    (∀ nx' N' ks' (cnt' : Nat), (∀ z, N'.count z = N.count z + sumT (fun q => R.count q * ((nextsQ l q).filter (notGoal l)).count z) post) → cnt' = cnt + sumT (fun q => R.count q * (nextsQ l q).countP (goalB l)) post → Ways nx' N' → Cars ks' N' → Ev (fun k => spec_CountRoutes.l0 k l (x1 - 1) nx' (ks'.map toS) (cnt' : Int)) r) →
    Ev (fun k => spec_CountRoutes.l1 k l x1 x6 ((pre ++ post).map toS) (cnt : Int) nx (ks.map toS) pre.length) r := by
  induction post with
  | nil =>
    intro pre N ks nx cnt hp hl hW hC hN hc hk h
    refine evSucc (fun k => by rw [spec_CountRoutes.l1, wrap_in (x := x1 - 1) (by omega) (by omega)]) ?_
    exact evF (by simp) (h nx N ks cnt (fun z => by simp [sumT]) (by simp [sumT]) hW hC)
  | cons q post ih =>
    intro pre N ks nx cnt hp hl hW hC hN hc hk h
    have hqR := hp q (by simp)
    obtain ⟨hg, hng⟩ := hG q hqR
    have hR : InR q := hg.range ht
    have hnum := numQ_range hR
    have hpos := List.count_pos_iff.2 hqR
    rw [sumT_cons] at hN hc
    simp only [List.length_cons] at hl hk
    have e1 := rd_cars2 pre q post
    have hx7 : (pre.length : Int) < ((pre ++ q :: post).map toS).length := by simp; omega
    refine evSucc (fun k => by rw [spec_CountRoutes.l1, e1]) ?_
    refine evT hx7 (evT (by omega) (evG (number_eq hR) (evT hnum.1 (evT (by rw [hW6.len]; omega) ?_))))
    have e2 : rd x6 (numQ q) = ((R.count q : Nat) : Int) := hW6.eq q hR
    have hnx : nextsQ l q = ((seg 0 9).filter (openQ l q)).map (nextQ q) := if_neg (by rw [hng]; simp)
    refine evE rfl ?_
    have key := cnt_in ht x1 x6 ((pre ++ q :: post).map toS) pre.length q hg (R.count q) hpos r ⟨by omega, hx7, by omega⟩ e1 9 0 N ks nx cnt (by omega) (by omega) hW hC (by omega) (by omega) (by omega) (fun nx' N' ks' h1 h2 h3 h4 h5 => by
      rw [← hnx] at h1 ⊢
      have hcp := List.countP_le_length (p := goalB l) (l := nextsQ l q)
      have hnl := nexts_len l q
      have hmul : R.count q * (nextsQ l q).countP (goalB l) ≤ R.count q * 9 := Nat.mul_le_mul_left _ (by omega)
      have := ih (pre ++ [q]) N' ks' nx' (cnt + R.count q * (nextsQ l q).countP (goalB l)) (fun p hp' => hp p (by simp [hp'])) (by simp; omega) h2 h3 (by omega) (by omega) (by omega) (fun nx2 N2 ks2 cnt2 g1 g2 g3 g4 => h nx2 N2 ks2 cnt2 (fun z => by rw [g1, h1, sumT_cons]; omega) (by rw [g2, sumT_cons]; omega) g3 g4)
      simpa using this)
    simpa [e2, toS] using key
theorem nexts_filter (l : List ByteArray) (X : List Q4) : (X.filter (notGoal l)).flatMap (nextsQ l) = X.flatMap (nextsQ l) := by
  induction X with
  | nil => rfl
  | cons q X ih =>
    rw [List.filter_cons]
    by_cases c : notGoal l q = true
    · rw [if_pos c, List.flatMap_cons, List.flatMap_cons, ih]
    · rw [if_neg c, List.flatMap_cons, ih]
      have : nextsQ l q = [] := if_pos (by simpa [notGoal] using c)
      rw [this, List.nil_append]
theorem routes_perm (l : List ByteArray) (d : Nat) : ∀ {A B : List Q4}, A.Perm B → (routesL l d A).Perm (routesL l d B) := by
  induction d with
  | zero => intro A B h; exact h
  | succ d ih => intro A B h; exact ih (h.flatMap_right _)
theorem routes_filter (l : List ByteArray) (d : Nat) {N X : List Q4} (h : N.Perm (X.filter (notGoal l))) : (routesL l (d + 1) N).countP (goalB l) = (routesL l (d + 1) X).countP (goalB l) := by
  have h1 := (routes_perm l (d + 1) h).countP_eq (goalB l)
  rw [h1]
  show (routesL l d ((X.filter (notGoal l)).flatMap (nextsQ l))).countP _ = _
  rw [nexts_filter]
  rfl
theorem cnt_out {l : List ByteArray} (ht : isT l = true) (d : Nat) : ∀ (R ks : List Q4) (ways : List Int) (cnt : Nat), d ≤ 12 → Ways ways R → Cars ks R → (∀ q ∈ R, Good l q ∧ goalB l q = false) → R.length * 9 ^ d ≤ 1000000000000000 →
    Ev (fun k => spec_CountRoutes.l0 k l (d : Int) ways (ks.map toS) (cnt : Int)) (if d = 0 then (cnt : Int) else ((routesL l d R).countP (goalB l) : Int), 0) := by
  induction d with
  | zero =>
    intro R ks ways cnt hd hW hC hG hl
    refine evSucc (fun k => by rw [spec_CountRoutes.l0]) ?_
    exact evF (by simp) (evS _)
  | succ d ih =>
    intro R ks ways cnt hd hW hC hG hl
    have hl1 : R.length * 9 ≤ 1000000000000000 := by
      have : R.length * 9 * 1 ≤ R.length * 9 * 9 ^ d := Nat.mul_le_mul_left _ (Nat.pow_pos (by omega))
      rw [Nat.pow_succ, Nat.mul_comm (9 ^ d) 9, ← Nat.mul_assoc] at hl
      omega
    have hkl : ks.length ≤ 30976 := by
      have := nodup_le ks allQ hC.nodup (fun q hq => mem_allQ ht (hG q ((hC.mem q).1 hq)).1)
      rwa [allQ_len] at this
    have hsum : sumT (fun q => R.count q * 9) ks = R.length * 9 := by
      have := sum_keys (fun _ => 9) hC.nodup R (fun q hq => (hC.mem q).2 hq)
      rw [← this]
      unfold sumT
      rw [List.map_const', List.sum_replicate_nat]
    refine evSucc (fun k => by rw [spec_CountRoutes.l0, hW.len]) ?_
    refine evT (by omega) (evT (by omega) (evT (by decide) ?_))
    have key := cnt_cars ht ((d + 1 : Nat) : Int) ⟨by omega, by omega⟩ ways R hW hG (by omega) (if d + 1 = 0 then (cnt : Int) else ((routesL l (d + 1) R).countP (goalB l) : Int), 0) ks [] [] [] (List.replicate 30976 0) 0 (fun q hq => (hC.mem q).1 hq) (by simpa using hkl) ways_zero ⟨by simp, by simp⟩ (by rw [hsum]; simpa using hl1) (by rw [hsum]; simpa using hl1) (by simp; omega) (fun nx' N' ks' cnt' h1 h2 h3 h4 => by
      have hper : N'.Perm ((R.flatMap (nextsQ l)).filter (notGoal l)) := List.perm_iff_count.2 (fun z => by
        rw [h1, List.filter_flatMap, flat_keys _ z hC.nodup R (fun q hq => (hC.mem q).2 hq)]
        simp)
      have hcnt : cnt' = (R.flatMap (nextsQ l)).countP (goalB l) := by
        rw [h2, Nat.zero_add, List.countP_flatMap, ← sum_keys (fun q => (nextsQ l q).countP (goalB l)) hC.nodup R (fun q hq => (hC.mem q).2 hq)]
        rfl
      have hG' : ∀ q ∈ N', Good l q ∧ goalB l q = false := fun q hq => by
        have hm := List.mem_filter.1 (hper.mem_iff.1 hq)
        exact ⟨GoodL.next q hm.1, by simpa [notGoal] using hm.2⟩
      have hN' : N'.length * 9 ^ d ≤ 1000000000000000 := by
        have h5 : N'.length ≤ 9 * R.length := by
          rw [hper.length_eq]
          exact Nat.le_trans (List.length_filter_le _ _) (flat_len l R)
        have h6 := Nat.mul_le_mul_right (9 ^ d) h5
        rw [Nat.pow_succ, Nat.mul_comm (9 ^ d) 9, ← Nat.mul_assoc, Nat.mul_comm R.length 9] at hl
        omega
      have := ih N' ks' nx' cnt' (by omega) h3 h4 hG' hN'
      rw [show ((d + 1 : Nat) : Int) - 1 = (d : Int) by omega]
      refine evE ?_ this
      rw [if_neg (by omega : ¬ d + 1 = 0)]
      cases d with
      | zero => rw [if_pos rfl, hcnt]; rfl
      | succ e =>
        rw [if_neg (by omega), routes_filter l e hper]
        rfl)
    exact key
end Go.Proofs.YtjblefcdihmdbaaDoor.B
