/-
  The shortest way to a goal: program and reference alike.
-/
import Derived.Test.YtjblefcdihmdbaaDoorMetPure
import Derived.Test.YtjblefcdihmdbaaDoorGoalPure
import Derived.Test.YtjblefcdihmdbaaDoorOutRoute
import Derived.Test.YtjblefcdihmdbaaDoorQ8
namespace Go.Proofs.YtjblefcdihmdbaaDoor.B
open Go.RowKit Go.Proofs.YtjblefcdihmdbaaDoor.Q Go.Proofs.YtjblefcdihmdbaaDoorW.PrintWords Go.Proofs.YtjblefcdihmdbaaDoorW.PrintLast
set_option linter.unusedVariables false

/-- Each trip's predecessor stands ahead of it. -/
def Back (ts : List Trip) : Prop := ∀ i : Int, 0 ≤ i → i < ts.length → (tripAt ts i).f1 < i
/-- The moves of a trip, the last one first. -/
def pathL (ts : List Trip) : Nat → Int → List Int
  | 0, _ => []
  | d + 1, i => if 0 ≤ (tripAt ts i).f1 then (tripAt ts i).f2 :: pathL ts d (tripAt ts i).f1 else []
theorem pathL_len (ts : List Trip) (d : Nat) : ∀ i, (pathL ts d i).length ≤ d := by
  induction d with
  | zero => intro i; simp [pathL]
  | succ d ih =>
    intro i
    simp only [pathL]
    split
    · have := ih (tripAt ts i).f1
      simp
      omega
    · simp
theorem path_impl {ts : List Trip} (hB : Back ts) (d : Nat) : ∀ (i : Int) (out : List Int), 0 ≤ i → i < ts.length → i < d → out.length + d ≤ 1000000 → ∀ e, d ≤ e → pathF ts e (tripAt ts i) out = some (out ++ pathL ts d i) := by
  induction d with
  | zero => intro i out h0 h1 h2; omega
  | succ d ih =>
    intro i out h0 h1 h2 h3 e he
    obtain ⟨e, rfl⟩ : ∃ m, e = m + 1 := ⟨e - 1, by omega⟩
    have hb := hB i h0 h1
    simp only [pathF, pathL]
    by_cases c : 0 ≤ (tripAt ts i).f1
    · rw [if_pos c, if_pos c, if_pos (by omega), if_pos (by omega)]
      rw [ih (tripAt ts i).f1 _ c (by omega) (by omega) (by simp; omega) e (by omega)]
      simp
    · rw [if_neg c, if_neg c]
      simp
theorem rd_map {ts : List Trip} (g : Trip → Int) {i : Int} (h0 : 0 ≤ i) (h1 : i < ts.length) : rd (ts.map g) i = g (tripAt ts i) := by
  unfold rd tripAt rd_T54
  have hlt : i.toNat < ts.length := by omega
  rw [List.getD_eq_getElem?_getD, List.getD_eq_getElem?_getD, List.getElem?_map, List.getElem?_eq_getElem hlt]
  rfl
theorem path_spec {ts : List Trip} (hB : Back ts) (hts : ts.length ≤ 1000000) (d : Nat) : ∀ (i : Int) (out : List Int), 0 ≤ i → i < ts.length → i < d → out.length + d ≤ 2000000 → Ev (fun k => spec_l08Route.l1 k (ts.map (·.f1)) (ts.map (·.f2)) out i) ((pathL ts d i).reverse ++ out, true) := by
  induction d with
  | zero => intro i out h0 h1 h2; omega
  | succ d ih =>
    intro i out h0 h1 h2 h3
    have hb := hB i h0 h1
    refine evSucc (fun k => by rw [spec_l08Route.l1, rd_map _ h0 h1, rd_map _ h0 h1]) ?_
    refine evT h0 (evT (by rw [List.length_map]; exact h1) ?_)
    simp only [pathL]
    by_cases c : 0 ≤ (tripAt ts i).f1
    · rw [if_pos c]
      refine evT c (evT (by rw [List.length_map]; exact h1) (evG rfl (evT (by simp; omega) ?_)))
      have := ih (tripAt ts i).f1 ([(tripAt ts i).f2] ++ out) c (by omega) (by omega) (by simp; omega)
      simpa using this
    · rw [if_neg c]
      exact evF c (evE (by simp) (evS _))
theorem Back.snoc {ts : List Trip} (h : Back ts) {n : Q4} {x y z : Int} (hx : x < ts.length) : Back (ts ++ [mkTrip n x y z]) := by
  intro i h0 h1
  by_cases c : i < (ts.length : Int)
  · rw [tripAt_app h0 c]
    exact h i h0 c
  · have e : i = ts.length := by simp at h1; omega
    subst e
    have : tripAt (ts ++ [mkTrip n x y z]) (ts.length : Int) = mkTrip n x y z := by
      unfold tripAt rd_T54
      simp [List.getD_eq_getElem?_getD]
    rw [this]
    exact hx
theorem Back.add {l : List ByteArray} (i far : Int) (q : Q4) (ms : List Int) : ∀ ts, Back ts → i < ts.length → Back (addL i far q ms ts) := by
  induction ms with
  | nil => intro ts h _; exact h
  | cons m ms ih =>
    intro ts h hi
    simp only [addL]
    split
    · exact ih ts h hi
    · exact ih _ (h.snoc hi) (by simp; omega)
theorem bfs_back {l : List ByteArray} (ht : isT l = true) (acc : Q4 → Bool) (most : Int) (d : Nat) : ∀ (ts : List Trip) (i : Int), Inv l ts → Back ts → 0 ≤ i →
    Inv l (bfs l acc most d ts i).1 ∧ Back (bfs l acc most d ts i).1 ∧ (0 ≤ (bfs l acc most d ts i).2 → (bfs l acc most d ts i).2 < (bfs l acc most d ts i).1.length) := by
  induction d with
  | zero => intro ts i hI hB h0; exact ⟨hI, hB, fun h => by simp [bfs] at h⟩
  | succ d ih =>
    intro ts i hI hB h0
    simp only [bfs]
    split
    · rename_i c
      have hf := hI.far _ (tripAt_mem h0 c)
      split
      · exact ⟨hI, hB, fun _ => c⟩
      · split
        · exact ih ts (i + 1) hI hB (by omega)
        · exact ih _ (i + 1) (Inv.add i _ _ _ ts hI (fun m hm => movesQ_open hm) hf.1 hf.2) (Back.add (l := l) i _ _ _ ts hB c) (by omega)
    · exact ⟨hI, hB, fun h => by simp at h⟩
theorem path_in {l : List ByteArray} (ht : isT l = true) (i : Int) (h0 : 0 ≤ i) (q : Q4) (hg : Good l q) (far : Int) (r : List Int × Bool) (d : Nat) : ∀ (m : Int) (ts : List Trip) (met : List Bool), 0 ≤ m → m + d = 9 → Inv l ts → Met met (ts.map keyT) → i < ts.length → keyT (tripAt ts i) = q → 0 ≤ far → far ≤ ts.length →
    (∀ met', Met met' ((addL i far q ((seg m d).filter (openQ l q)) ts).map keyT) → Ev (fun k => spec_l08Route.l0 k l met' ((addL i far q ((seg m d).filter (openQ l q)) ts).map (·.f0)) ((addL i far q ((seg m d).filter (openQ l q)) ts).map (·.f1)) ((addL i far q ((seg m d).filter (openQ l q)) ts).map (·.f2)) (i + 1)) r) →
      Ev (fun k => spec_l08Route.l2 k l met (ts.map (·.f0)) (ts.map (·.f1)) (ts.map (·.f2)) i m) r := by
  induction d with
  | zero =>
    intro m ts met hm0 hm hI hM hi hq hf0 hf1 h
    have hl := hI.len ht
    refine evSucc (fun k => by rw [spec_l08Route.l2, wrap_in (x := i + 1) (by omega) (by omega)]) ?_
    exact evF (by omega) (h met (by simpa [seg, addL] using hM))
  | succ d ih =>
    intro m ts met hm0 hm hI hM hi hq hf0 hf1 h
    have hl := hI.len ht
    have e1 : (rd_T28 (ts.map (·.f0)) i) = (tripAt ts i).f0 := rd_cars h0 hi
    have e2 : (tripAt ts i).f0.f0 = q.1 ∧ (tripAt ts i).f0.f1 = q.2.1 ∧ (tripAt ts i).f0.f2 = q.2.2.1 ∧ (tripAt ts i).f0.f3 = q.2.2.2 := by rw [← hq]; exact ⟨rfl, rfl, rfl, rfl⟩
    refine evSucc (fun k => by rw [spec_l08Route.l2, e1, e2.1, e2.2.1, e2.2.2.1, e2.2.2.2, wrap_in (x := m + 1) (by omega) (by omega)]) ?_
    refine evT (by omega) (evT h0 (evT (by rw [List.length_map]; exact hi) (evB (moveQ ht q hg m ⟨hm0, by omega⟩) ?_)))
    simp only [seg, List.filter_cons] at h
    by_cases ho : openQ l q m = true
    · rw [if_pos ho] at h ⊢
      have hgn := open_good ho
      have hR : InR (nextQ q m) := hgn.range ht
      have hnum := numQ_range hR
      refine evT rfl (evG (number_eq hR) (evT hnum.1 (evT (by rw [hM.1]; omega) ?_)))
      simp only [addL] at h
      by_cases hmem : nextQ q m ∈ ts.map keyT
      · rw [if_pos hmem] at h
        refine evT ((hM.2 _ hR).2 hmem) ?_
        exact ih (m + 1) ts met (by omega) (by omega) hI hM hi hq hf0 hf1 h
      · rw [if_neg hmem] at h
        refine evF (fun e => hmem ((hM.2 _ hR).1 e)) (evG (number_eq hR) (evT hnum.1 (evT (by rw [hM.1]; omega) (evT (by rw [List.length_map]; omega) (evT (by rw [List.length_map]; omega) (evT (by rw [List.length_map]; omega) ?_))))))
        have := ih (m + 1) (ts ++ [mkTrip (nextQ q m) i m (far + 1)]) (met.set (numQ (nextQ q m)).toNat true) (by omega) (by omega) (hI.snoc hmem hgn ⟨by omega, by omega⟩) (by rw [List.map_append]; exact hM.add hR) (by simp; omega) (by rw [tripAt_app h0 hi]; exact hq) hf0 (by simp; omega) h
        simpa [mkTrip] using this
    · rw [if_neg ho] at h ⊢
      exact evF (by simp) (ih (m + 1) ts met (by omega) (by omega) hI hM hi hq hf0 hf1 h)
/-- The way, out of where the search ended. -/
def wayB (D : Nat) (z : List Trip × Int) : List Int × Bool := if z.2 < 0 then ([], false) else ((pathL z.1 D z.2).reverse, true)
theorem path_out {l : List ByteArray} (ht : isT l = true) (most : Int) (hmost : 1000000 ≤ most) (D : Nat) (hD : 30977 ≤ D ∧ D ≤ 1000000) (d : Nat) : ∀ (i : Int) (ts : List Trip) (met : List Bool), 0 ≤ i → 30977 ≤ i + d → Inv l ts → Back ts → Met met (ts.map keyT) →
    Ev (fun k => spec_l08Route.l0 k l met (ts.map (·.f0)) (ts.map (·.f1)) (ts.map (·.f2)) i) (wayB D (bfs l (goalB l) most d ts i)) := by
  induction d with
  | zero =>
    intro i ts met h0 hd hI hB hM
    have := hI.len ht
    refine evSucc (fun k => by rw [spec_l08Route.l0]) ?_
    refine evF (by rw [List.length_map]; omega) (evE ?_ (evS _))
    simp [bfs, wayB]
  | succ d ih =>
    intro i ts met h0 hd hI hB hM
    have hl := hI.len ht
    refine evSucc (fun k => by rw [spec_l08Route.l0]) ?_
    simp only [bfs]
    by_cases c : i < (ts.length : Int)
    · have hg := hI.good _ (tripAt_mem h0 c)
      have hf := hI.far _ (tripAt_mem h0 c)
      rw [if_pos c, rd_cars h0 c]
      refine evT (by rw [List.length_map]; exact c) (evT h0 (evG (goal_spec ht hg) ?_))
      by_cases cs : goalB l (keyT (tripAt ts i)) = true
      · rw [if_pos cs]
        refine evT cs (evE ?_ (path_spec hB (by omega) D i [] h0 c (by omega) (by simp; omega)))
        simp only [wayB]
        rw [if_neg (by omega), List.append_nil]
      · rw [if_neg cs, if_neg (by omega)]
        refine evF cs ?_
        refine path_in ht i h0 (keyT (tripAt ts i)) hg (tripAt ts i).f3 _ 9 0 ts met (by omega) (by omega) hI hM c rfl hf.1 hf.2 (fun met' hM' => ?_)
        exact ih (i + 1) _ met' (by omega) (by omega) (Inv.add i _ _ _ ts hI (fun m hm => movesQ_open hm) hf.1 hf.2) (Back.add (l := l) i _ _ _ ts hB c) hM'
    · rw [if_neg c]
      refine evF (by rw [List.length_map]; exact c) (evE ?_ (evS _))
      simp [wayB]
end Go.Proofs.YtjblefcdihmdbaaDoor.B
