/-
  CanStop: program and reference search alike.
-/
import Derived.Test.YtjblefcdihmdbaaDoorMetPure
import Derived.Test.YtjblefcdihmdbaaDoorOutStop
import Derived.Test.YtjblefcdihmdbaaDoorCarPure2
import Derived.Test.YtjblefcdihmdbaaDoorQ5
import Derived.Test.YtjblefcdihmdbaaDoorQ13
namespace Go.Proofs.YtjblefcdihmdbaaDoor.B
open Go.RowKit Go.Proofs.YtjblefcdihmdbaaDoor.Q Go.Proofs.YtjblefcdihmdbaaDoorW.PrintWords Go.Proofs.YtjblefcdihmdbaaDoorW.PrintLast

def stopB (q : Q4) : Bool := decide (q.2.2.1 = 0) && decide (q.2.2.2 = 0)
theorem stopP_eq (q : Q4) : stopP q = some (stopB q) := by
  unfold stopP impl_CanStop_1.f stopB
  by_cases c : q.2.2.1 = 0
  · rw [if_pos c, decide_eq_true c, Bool.true_and]
    congr 1
  · rw [if_neg c, decide_eq_false c, Bool.false_and]
theorem stop_in {l : List ByteArray} (ht : isT l = true) (i : Int) (h0 : 0 ≤ i) (q : Q4) (hg : Good l q) (far : Int) (r : Bool × Int) (d : Nat) : ∀ (m : Int) (ts : List Trip) (met : List Bool), 0 ≤ m → m + d = 9 → Inv l ts → Met met (ts.map keyT) → i < ts.length → keyT (tripAt ts i) = q → 0 ≤ far → far ≤ ts.length →
    (∀ met', Met met' ((addL i far q ((seg m d).filter (openQ l q)) ts).map keyT) → Ev (fun k => spec_CanStop.l0 k l met' ((addL i far q ((seg m d).filter (openQ l q)) ts).map (·.f0)) (i + 1)) r) → Ev (fun k => spec_CanStop.l1 k l met (ts.map (·.f0)) i m) r := by
  induction d with
  | zero =>
    intro m ts met hm0 hm hI hM hi hq hf0 hf1 h
    have hl := hI.len ht
    refine evSucc (fun k => by rw [spec_CanStop.l1, wrap_in (x := i + 1) (by omega) (by omega)]) ?_
    exact evF (by omega) (h met (by simpa [seg, addL] using hM))
  | succ d ih =>
    intro m ts met hm0 hm hI hM hi hq hf0 hf1 h
    have hl := hI.len ht
    have e1 : (rd_T28 (ts.map (·.f0)) i) = (tripAt ts i).f0 := rd_cars h0 hi
    have e2 : (tripAt ts i).f0.f0 = q.1 ∧ (tripAt ts i).f0.f1 = q.2.1 ∧ (tripAt ts i).f0.f2 = q.2.2.1 ∧ (tripAt ts i).f0.f3 = q.2.2.2 := by rw [← hq]; exact ⟨rfl, rfl, rfl, rfl⟩
    refine evSucc (fun k => by rw [spec_CanStop.l1, e1, e2.1, e2.2.1, e2.2.2.1, e2.2.2.2, wrap_in (x := m + 1) (by omega) (by omega)]) ?_
    refine evT (by omega) (evT h0 (evT (by rw [List.length_map]; exact hi) (evB (moveQ ht q hg m ⟨hm0, by omega⟩) ?_)))
    simp only [seg, List.filter_cons] at h
    by_cases ho : openQ l q m = true
    · rw [if_pos ho] at h ⊢
      have hgn := open_good ho
      have hR : InR (nextQ q m) := hgn.range ht
      have hnum := numQ_range hR
      refine evT rfl (evG (number_eq hR) (evT hnum.1 (evT (by rw [hM.1]; omega) ?_)))
      simp only [addL] at h
      by_cases hmem : nextQ q m ∈ ts.map keyT
      · rw [if_pos hmem] at h
        refine evT ((hM.2 _ hR).2 hmem) ?_
        exact ih (m + 1) ts met (by omega) (by omega) hI hM hi hq hf0 hf1 h
      · rw [if_neg hmem] at h
        refine evF (fun e => hmem ((hM.2 _ hR).1 e)) (evG (number_eq hR) (evT hnum.1 (evT (by rw [hM.1]; omega) (evT (by rw [List.length_map]; omega) ?_))))
        have := ih (m + 1) (ts ++ [mkTrip (nextQ q m) i m (far + 1)]) (met.set (numQ (nextQ q m)).toNat true) (by omega) (by omega) (hI.snoc hmem hgn ⟨by omega, by omega⟩) (by rw [List.map_append]; exact hM.add hR) (by simp; omega) (by rw [tripAt_app h0 hi]; exact hq) hf0 (by simp; omega) h
        simpa [mkTrip] using this
    · rw [if_neg ho] at h ⊢
      exact evF (by simp) (ih (m + 1) ts met (by omega) (by omega) hI hM hi hq hf0 hf1 h)
/-- Whether the search has ended at a car. -/
def geB (z : List Trip × Int) : Bool × Int := (decide (z.2 ≥ 0), 0)
/-- What CanStop answers, out of the plain search. -/
theorem stop_out {l : List ByteArray} (ht : isT l = true) (most : Int) (hmost : 1000000 ≤ most) (d : Nat) : ∀ (i : Int) (ts : List Trip) (met : List Bool), 0 ≤ i → 30977 ≤ i + d → Inv l ts → Met met (ts.map keyT) →
    Ev (fun k => spec_CanStop.l0 k l met (ts.map (·.f0)) i) (geB (bfs l stopB most d ts i)) := by
  induction d with
  | zero =>
    intro i ts met h0 hd hI hM
    have := hI.len ht
    refine evSucc (fun k => by rw [spec_CanStop.l0]) ?_
    refine evF (by rw [List.length_map]; omega) (evE ?_ (evS _))
    simp [bfs, geB]
  | succ d ih =>
    intro i ts met h0 hd hI hM
    have hl := hI.len ht
    refine evSucc (fun k => by rw [spec_CanStop.l0]) ?_
    simp only [bfs]
    by_cases c : i < (ts.length : Int)
    · have hg := hI.good _ (tripAt_mem h0 c)
      have hf := hI.far _ (tripAt_mem h0 c)
      rw [if_pos c, rd_cars h0 c]
      refine evT (by rw [List.length_map]; exact c) (evT h0 ?_)
      have hj : ∀ b : Bool, b = false → stopB (keyT (tripAt ts i)) = false → Ev (fun k => spec_CanStop.j1 k l met (ts.map (·.f0)) i b) (geB (bfs l stopB most d (addL i (tripAt ts i).f3 (keyT (tripAt ts i)) (movesQ l (keyT (tripAt ts i))) ts) (i + 1))) := fun b hb _ => by
        subst hb
        refine evSucc (fun k => by rw [spec_CanStop.j1]) ?_
        refine evF (by simp) ?_
        refine stop_in ht i h0 (keyT (tripAt ts i)) hg (tripAt ts i).f3 _ 9 0 ts met (by omega) (by omega) hI hM c rfl hf.1 hf.2 (fun met' hM' => ?_)
        exact ih (i + 1) _ met' (by omega) (by omega) (Inv.add i _ _ _ ts hI (fun m hm => movesQ_open hm) hf.1 hf.2) hM'
      by_cases cs : stopB (keyT (tripAt ts i)) = true
      · rw [if_pos cs]
        have cs2 : (tripAt ts i).f0.f2 = 0 ∧ (tripAt ts i).f0.f3 = 0 := by
          have := cs
          unfold stopB at this
          simp only [Bool.and_eq_true, decide_eq_true_eq] at this
          exact this
        refine evT cs2.1 ?_
        refine evSucc (fun k => by rw [spec_CanStop.j1]) ?_
        refine evT (by simp [cs2.2]) (evE ?_ (evS _))
        simp [h0, geB]
      · rw [if_neg cs, if_neg (by omega)]
        have csf : stopB (keyT (tripAt ts i)) = false := by simpa using cs
        by_cases c2 : (tripAt ts i).f0.f2 = 0
        · refine evT c2 (hj _ ?_ csf)
          have : ¬ (tripAt ts i).f0.f3 = 0 := fun e => cs (by simp [stopB, keyT, c2, e])
          simpa [mkTrip] using this
        · exact evF c2 (hj _ rfl csf)
    · rw [if_neg c]
      refine evF (by rw [List.length_map]; exact c) (evE ?_ (evS _))
      simp [geB]
theorem inv_start {l : List ByteArray} {q : Q4} (hg : Good l q) : Inv l [trip0 q.1 q.2.1 q.2.2.1 q.2.2.2] := by
  refine ⟨fun t ht => ?_, by simp, fun t ht => ?_⟩
  · obtain rfl : t = trip0 q.1 q.2.1 q.2.2.1 q.2.2.2 := by simpa using ht
    exact hg
  · obtain rfl : t = trip0 q.1 q.2.1 q.2.2.1 q.2.2.2 := by simpa using ht
    simp [trip0]
theorem wf_good {l : List ByteArray} (ht : isT l = true) {q : Q4} (hg : Good l q) : wfB q = true := by
  obtain ⟨h1, h2, h3, h4⟩ := hg.range ht
  have w : ∀ x : Int, -9223372036854775808 ≤ x → x ≤ 9223372036854775807 → (Lit.int .i64 x).wf = true := fun x a b => by
    have := wrap64_wf x
    rwa [wrap_in a b] at this
  simp only [wfB, Bool.and_eq_true]
  exact ⟨w _ (by omega) (by omega), w _ (by omega) (by omega), w _ (by omega) (by omega), w _ (by omega) (by omega)⟩
theorem both_stop (l : List ByteArray) (hs : Small l) (c0 c1 c2 c3 : Int) : ∃ (r : Bool) (e : Int), Ev (fun k => spec_CanStop.f k l c0 c1 c2 c3) (r, e) ∧ Ev (fun k => impl_CanStop.f k l c0 c1 c2 c3) (r, e) := by
  unfold spec_CanStop.f impl_CanStop.f
  by_cases h : carC l c0 c1 c2 c3 0 = 0
  · obtain ⟨ht, hf, h2, h3, hm⟩ := carC_zero h
    have hg : Good l (c0, c1, c2, c3) := ⟨hf, h2, h3⟩
    have hR : InR (c0, c1, c2, c3) := hg.range ht
    have hnum := numQ_range hR
    have hI := inv_start hg
    obtain ⟨D, hD⟩ : ∃ D : Nat, D = 30977 := ⟨_, rfl⟩
    obtain ⟨M, hM⟩ : ∃ M : Int, M = 1099511627776 := ⟨_, rfl⟩
    have s1 := stop_out ht M (by omega) D 0 [trip0 c0 c1 c2 c3] _ (by omega) (by omega) hI (met_start hR)
    obtain ⟨K, hK⟩ := tour_bfs ht stopB (fun _ => stopP) (fun q _ => evC (stopP_eq q)) M D [trip0 c0 c1 c2 c3] 0 hI (by omega) (by omega)
    have hlen : (List.replicate 30976 false).length = 30976 := List.length_replicate
    change Ev (fun k => spec_CanStop.l0 k l _ [⟨c0, c1, c2, c3⟩] 0) _ at s1
    generalize List.replicate 30976 false = rep at s1 hlen ⊢
    have key : Ev (fun k => tour_CanStop.f k l c0 c1 c2 c3 M) (bfs l stopB M D [trip0 c0 c1 c2 c3] 0) := by
      refine ⟨K + D + 1, fun n hn => ?_⟩
      have e : tour_CanStop.f n l c0 c1 c2 c3 M = tourF stopP n l M n [trip0 c0 c1 c2 c3] 0 := if_pos (wf_good ht hg)
      exact e.trans (hK n (by omega) n (by omega))
    subst hM
    generalize bfs l stopB 1099511627776 D [trip0 c0 c1 c2 c3] 0 = z at s1 key
    clear hK hI
    refine ⟨decide (z.2 ≥ 0), 0, ?_, ?_⟩
    · refine evB (carCode_spec l c0 c1 c2 c3 0) ?_
      refine evT h ?_
      refine evG rfl ?_
      refine evG (number_eq (q := (c0, c1, c2, c3)) hR) ?_
      refine evT hnum.1 ?_
      refine evT (by rw [hlen]; exact hnum.2) ?_
      exact s1
    · refine evB (carCode_impl l hs c0 c1 c2 c3 0) ?_
      refine evT h ?_
      exact evB key (evS _)
  · exact ⟨false, carC l c0 c1 c2 c3 0, evB (carCode_spec l c0 c1 c2 c3 0) (evF h (evS _)), evB (carCode_impl l hs c0 c1 c2 c3 0) (evF h (evS _))⟩
end Go.Proofs.YtjblefcdihmdbaaDoor.B
