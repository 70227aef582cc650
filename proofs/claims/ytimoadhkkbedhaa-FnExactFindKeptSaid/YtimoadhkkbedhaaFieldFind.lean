/-
  The two searches for kept matchings, valued: the program's matchFrom tells Mo, the reference's l05Kept tells Ko, and FindKept is told by either.
-/
import Derived.Test.YtimoadhkkbedhaaFieldKept
import Derived.Test.YtimoadhkkbedhaaQ28
import Derived.Test.YtimoadhkkbedhaaQ19
namespace Go.Proofs.Ytimoadhkkbedhaa.B
open Go.RowKit Go.Proofs.Ytimoadhkkbedhaa.Q Go.Proofs.YtimoadhkkbedhaaW.PrintWords Go.Proofs.YtimoadhkkbedhaaW.PrintLast Go.Proofs.YtimoadhkkbedhaaW.PrintMore

section
variable {P L R B : Int} {p : List Int}
theorem Inv.neg (h : Inv P p) (x : Int) (h0 : 0 ≤ x) (h1 : x < P) (hn : rd p x < 0) : rd p x = -1 := by
  rcases h.2 x h0 h1 with c | c
  · exact c
  · omega
theorem Inv.pos (h : Inv P p) (x : Int) (h0 : 0 ≤ x) (h1 : x < P) (hn : ¬ rd p x < 0) : (0 ≤ rd p x ∧ rd p x < P) ∧ rd p x ≠ x ∧ rd p (rd p x) = x := by
  rcases h.2 x h0 h1 with c | c
  · omega
  · exact c
theorem Inv.inj (h : Inv P p) (x y : Int) (h0 : 0 ≤ x ∧ x < P) (h1 : 0 ≤ y ∧ y < P) (hx : ¬ rd p x < 0) (hy : ¬ rd p y < 0) (hne : x ≠ y) : rd p x ≠ rd p y := fun e => by
  have e1 := (h.pos x h0.1 h0.2 hx).2.2
  have e2 := (h.pos y h1.1 h1.2 hy).2.2
  rw [e, e2] at e1
  exact hne e1.symm
theorem mt_in_spec (hP : 1 ≤ P ∧ P ≤ 8) (h : Inv P p) (x : Int) (h0 : 0 ≤ x) (h1 : x < P) (hx : ¬ rd p x < 0) (r : Bool) (hk : Ev (fun k => spec_l05Matches.l0 k p (wrap64 (x + 1)) P L R B) r) (d : Nat) : ∀ y : Int, 0 ≤ y → y + d = x →
    Ev (fun k => spec_l05Matches.l1 k p x y P L R B) ((seg y d).all (mtR L p x) && r) := by
  have hlen := h.1
  have hpx := h.pos x h0 h1 hx
  induction d with
  | zero =>
    intro y hy e
    refine evSucc (fun k => by rw [spec_l05Matches.l1]) ?_
    exact evF (by omega) (evE (by simp [seg]) hk)
  | succ d ih =>
    intro y hy e
    have e1 := ih (y + 1) (by omega) (by omega)
    refine evSucc (fun k => by rw [spec_l05Matches.l1, wrap_in (x := y + 1) (by omega) (by omega)]) ?_
    refine evT (by omega) (evT hy (evT (by omega) ?_))
    simp only [seg, List.all_cons]
    by_cases c : rd p y < 0
    · refine evF (by omega) (evE ?_ e1)
      unfold mtR
      rw [decide_eq_true c]
      simp
    · have hpy := h.pos y hy (by omega) c
      refine evT (by omega) ?_
      refine evG (joins_spec P L R B x y (by omega) (by omega)) ?_
      refine evT h0 (evT (by omega) ?_)
      refine evG (joins_spec P L R B _ _ (by omega) (by omega)) ?_
      rw [show mtR L p x y = (decide (rd p y < 0) || (jn L x y == jn L (rd p x) (rd p y))) from rfl, decide_eq_false c, Bool.false_or]
      generalize jn L x y = u
      generalize jn L (rd p x) (rd p y) = v
      by_cases cc : u = v
      · subst cc
        exact evF (by simp) (evE (by simp) e1)
      · exact evT (by simpa using cc) (evE (by simp [cc]) (evS _))
theorem matches_spec (hP : 1 ≤ P ∧ P ≤ 8) (h : Inv P p) : Ev (fun k => spec_l05Matches.f k P L R B p) (mt P L p) := by
  have hlen := h.1
  have key : ∀ (d : Nat) (x : Int), 0 ≤ x → x + d = P → Ev (fun k => spec_l05Matches.l0 k p x P L R B) ((seg x d).all (mtX L p)) := by
    intro d
    induction d with
    | zero =>
      intro x h0 e
      refine evSucc (fun k => by rw [spec_l05Matches.l0]) ?_
      exact evF (by omega) (evE (by simp [seg]) (evS _))
    | succ d ih =>
      intro x h0 e
      have e1 := ih (x + 1) (by omega) (by omega)
      refine evSucc (fun k => by rw [spec_l05Matches.l0, wrap_in (x := x + 1) (by omega) (by omega)]) ?_
      refine evT (by omega) (evT h0 (evT (by omega) ?_))
      simp only [seg, List.all_cons]
      by_cases c : rd p x < 0
      · refine evT c (evE ?_ e1)
        unfold mtX
        rw [decide_eq_true c]
        simp
      · have hpx := h.pos x h0 (by omega) c
        refine evF c (evF hpx.2.1 (evT (by omega) (evT (by omega) ?_)))
        rw [hpx.2.2]
        refine evSucc (fun k => by rw [spec_l05Matches.j1]) ?_
        refine evF (by simp) ?_
        unfold mtX
        rw [decide_eq_false c, Bool.false_or]
        refine mt_in_spec hP h x h0 (by omega) c _ ?_ x.toNat 0 (by omega) (by omega)
        rw [wrap_in (x := x + 1) (by omega) (by omega)]
        exact e1
  exact key P.toNat 0 (by omega) (by omega)
theorem mt_in_impl (hP : 1 ≤ P ∧ P ≤ 8) (h : Inv P p) (hf : ∀ x, 0 ≤ x → x < P → 0 ≤ rd p x) (x : Int) (h0 : 0 ≤ x) (h1 : x < P) (r : Bool) (hk : Ev (fun k => impl_Field_isMatching.l0 k p P (wrap64 (x + 1)) P L R B) r) (d : Nat) : ∀ y : Int, 0 ≤ y → y + d = x →
    Ev (fun k => impl_Field_isMatching.l1 k p x P x x y P L R B) ((seg y d).all (mtR L p x) && r) := by
  have hlen := h.1
  have hx := hf x h0 h1
  have hpx := h.pos x h0 h1 (by omega)
  induction d with
  | zero =>
    intro y hy e
    refine evSucc (fun k => by rw [impl_Field_isMatching.l1]) ?_
    exact evF (by omega) (evE (by simp [seg]) hk)
  | succ d ih =>
    intro y hy e
    have e1 := ih (y + 1) (by omega) (by omega)
    have c := hf y hy (by omega)
    have hpy := h.pos y hy (by omega) (by omega)
    refine evSucc (fun k => by rw [impl_Field_isMatching.l1, wrap_in (x := y + 1) (by omega) (by omega)]) ?_
    refine evT (by omega) ?_
    refine evG (joins_impl P L R B x y (by omega) (by omega) (by omega)) ?_
    refine evT h0 (evT (by omega) (evT hy (evT (by omega) ?_)))
    refine evG (joins_impl P L R B _ _ (by omega) (by omega) (h.inj x y (by omega) (by omega) (by omega) (by omega) (by omega))) ?_
    simp only [seg, List.all_cons]
    rw [show mtR L p x y = (decide (rd p y < 0) || (jn L x y == jn L (rd p x) (rd p y))) from rfl, decide_eq_false (by omega), Bool.false_or]
    generalize jn L x y = u
    generalize jn L (rd p x) (rd p y) = v
    by_cases cc : u = v
    · subst cc
      exact evF (by simp) (evE (by simp) e1)
    · exact evT (by simpa using cc) (evE (by simp [cc]) (evS _))
theorem full_impl (hP : 1 ≤ P ∧ P ≤ 8) (h : Inv P p) (hf : ∀ x, 0 ≤ x → x < P → 0 ≤ rd p x) : Ev (fun k => impl_Field_isMatching.f k P L R B p) (mt P L p) := by
  have hlen := h.1
  have key : ∀ (d : Nat) (x : Int), 0 ≤ x → x + d = P → Ev (fun k => impl_Field_isMatching.l0 k p P x P L R B) ((seg x d).all (mtX L p)) := by
    intro d
    induction d with
    | zero =>
      intro x h0 e
      refine evSucc (fun k => by rw [impl_Field_isMatching.l0]) ?_
      exact evF (by omega) (evE (by simp [seg]) (evS _))
    | succ d ih =>
      intro x h0 e
      have e1 := ih (x + 1) (by omega) (by omega)
      have c := hf x h0 (by omega)
      have hpx := h.pos x h0 (by omega) (by omega)
      refine evSucc (fun k => by rw [impl_Field_isMatching.l0]) ?_
      refine evT (by omega) (evT h0 (evT (by omega) ?_))
      simp only [seg, List.all_cons]
      refine evF hpx.2.1 (evT (by omega) (evT (by omega) ?_))
      rw [hpx.2.2]
      refine evSucc (fun k => by rw [impl_Field_isMatching.j1]) ?_
      refine evF (by simp) ?_
      unfold mtX
      rw [decide_eq_false (by omega), Bool.false_or]
      refine mt_in_impl hP h hf x h0 (by omega) _ ?_ x.toNat 0 (by omega) (by omega)
      rw [wrap_in (x := x + 1) (by omega) (by omega)]
      exact e1
  exact key P.toNat 0 (by omega) (by omega)
def fV (o : Option Int) : Int := match o with | none => -1 | some i => i
theorem index_impl (hP : 1 ≤ P ∧ P ≤ 8) (h : Inv P p) : Ev (fun k => slices_Index_int64_int64.f k p (-1)) (fV (fI P p)) := by
  have hlen := h.1
  have key : ∀ (d : Nat) (x : Int), 0 ≤ x → x + d = P → Ev (fun k => slices_Index_int64_int64.l0 k p (-1) (p.length : Int) x) (fV ((seg x d).find? (fun x => decide (rd p x < 0)))) := by
    intro d
    induction d with
    | zero =>
      intro x h0 e
      refine evSucc (fun k => by rw [slices_Index_int64_int64.l0]) ?_
      exact evF (by omega) (evS _)
    | succ d ih =>
      intro x h0 e
      have e1 := ih (x + 1) (by omega) (by omega)
      refine evSucc (fun k => by rw [slices_Index_int64_int64.l0, wrap_in (x := x + 1) (by omega) (by omega)]) ?_
      refine evT (by omega) (evT h0 (evT (by omega) ?_))
      simp only [seg, List.find?_cons]
      by_cases c : rd p x < 0
      · rw [decide_eq_true c]
        exact evT (by rw [h.neg x h0 (by omega) c]) (evS _)
      · rw [decide_eq_false c]
        exact evF (by omega) e1
  exact key P.toNat 0 (by omega) (by omega)
theorem first_spec (hP : 1 ≤ P ∧ P ≤ 8) (h : Inv P p) (r : List Int × Bool) (hk : Ev (fun k => spec_l05Kept.j1 k p (match fI P p with | none => P | some i => i) P L R B) r) : Ev (fun k => spec_l05Kept.l0 k p 0 P L R B) r := by
  have hlen := h.1
  have key : ∀ (d : Nat) (x : Int), 0 ≤ x → x + d = P → Ev (fun k => spec_l05Kept.j1 k p (match (seg x d).find? (fun x => decide (rd p x < 0)) with | none => P | some i => i) P L R B) r → Ev (fun k => spec_l05Kept.l0 k p x P L R B) r := by
    intro d
    induction d with
    | zero =>
      intro x h0 e hk
      refine evSucc (fun k => by rw [spec_l05Kept.l0]) ?_
      have : x = P := by omega
      subst this
      exact evF (by omega) hk
    | succ d ih =>
      intro x h0 e hk
      refine evSucc (fun k => by rw [spec_l05Kept.l0, wrap_in (x := x + 1) (by omega) (by omega)]) ?_
      refine evT (by omega) (evT h0 (evT (by omega) ?_))
      simp only [seg, List.find?_cons] at hk
      by_cases c : rd p x < 0
      · rw [decide_eq_true c] at hk
        exact evF (by omega) hk
      · rw [decide_eq_false c] at hk
        exact evT (by omega) (ih (x + 1) (by omega) (by omega) hk)
  exact key P.toNat 0 (by omega) (by omega) hk
end
theorem col_case (u v : Nat) (hu : u ≤ 2) (hv : v ≤ 2) : (!((u == 0 && v == 0) || (u == 1 && v == 2) || (u == 2 && v == 1))) = if (u : Int) = (v : Int) then ((u : Int) != 0) else if wrap64 ((u : Int) * (v : Int)) = 2 then false else true := by
  have key : ∀ u v : Fin 3, (!((u.val == 0 && v.val == 0) || (u.val == 1 && v.val == 2) || (u.val == 2 && v.val == 1))) = if (u.val : Int) = (v.val : Int) then ((u.val : Int) != 0) else if wrap64 ((u.val : Int) * (v.val : Int)) = 2 then false else true := by decide +kernel
  exact key ⟨u, by omega⟩ ⟨v, by omega⟩
theorem dg_two {n a b : Nat} (h : Two n a b) (i : Nat) : dg a b i ≤ 2 := by
  have h1 := h.2.2 i
  have h2 := dg_le a b i
  omega
theorem bit_case (a b i j : Nat) (hi : dg a b i ≤ 2) (hj : dg a b j ≤ 2) : (!((dg a b i == 0 && dg a b j == 0) || (dg a b i == 1 && dg a b j == 2) || (dg a b i == 2 && dg a b j == 1))) =
    if (((a.testBit i).toNat : Nat) : Int) = (((b.testBit j).toNat : Nat) : Int) then ((((b.testBit i).toNat : Nat) : Int) != (((a.testBit j).toNat : Nat) : Int)) else true := by
  unfold dg at *
  revert hi hj
  cases a.testBit i <;> cases b.testBit i <;> cases a.testBit j <;> cases b.testBit j <;> decide +kernel
section
variable {P L : Int} {a b : Nat}
def Told (P q : Int) (p : List Int) : Prop := (0 ≤ q ∧ q ≤ P) ∧ ∀ x, 0 ≤ x → x < q → 0 ≤ rd p x
theorem Told.own {p : List Int} {i j : Int} (hI : Inv P p) (hi : 0 ≤ i ∧ i < P) (hj : i < j ∧ j < P) (hl : ∀ x, 0 ≤ x → x < i → 0 ≤ rd p x) : Told P (i + 1) (own p i j) := by
  refine ⟨by omega, fun x h0 h1 => ?_⟩
  rw [rd_own hI i j x hi (by omega) h0, if_neg (by omega)]
  by_cases c : x = i
  · rw [if_pos c]; omega
  · rw [if_neg c]; exact hl x h0 (by omega)
theorem own_spec (l : List Int) (h : l.length ≤ 100) : spec_l01Own.f l = some l := by
  unfold spec_l01Own.f
  simp only [Option.bind_some]
  rw [if_pos (by simp; omega)]
  simp
theorem from_impl (hP : 1 ≤ P ∧ P ≤ 8) (h2 : Two P.toNat a b) (d : Nat) : ∀ (q : Int) (p : List Int), Inv P p → Told P q p → P + 1 ≤ d + q → ∃ r, Ev (fun k => impl_Field_matchFrom.f k P L a b p) r ∧ Tells r (Mo P L a b d p) := by
  induction d with
  | zero => intro q p _ h hd; have := h.1; omega
  | succ d ih =>
    intro q p hI hT hd
    have hlen := hI.1
    have hsm := h2.small (by omega)
    have hx := index_impl hP hI
    cases e : fI P p with
    | none =>
      rw [e] at hx
      refine ⟨(p, mt P L p), ?_, ?_⟩
      · refine evSucc (fun k => by rw [impl_Field_matchFrom.f]) ?_
        exact evB hx (evT (by decide) (evB (full_impl hP hI (fI_none e)) (evS _)))
      · simp only [Mo, e]
        cases mt P L p with
        | true => exact ⟨rfl, fun z hz => Option.some.inj hz⟩
        | false => exact ⟨rfl, fun z hz => by cases hz⟩
    | some i =>
      rw [e] at hx
      obtain ⟨hi, hpi, hlow⟩ := fI_some hP.1 hI e
      have hiq : q ≤ i := by
        rcases Int.lt_or_le i q with c | c
        · have := hT.2 i hi.1 c
          omega
        · exact c
      have key : ∀ (s : Nat) (j : Int), i < j → j + s = P → ∃ r, Ev (fun k => impl_Field_matchFrom.l0 k p i j P L a b) r ∧ Tells r (((seg j s).filter (candB L a b p i)).findSome? fun j => Mo P L a b d (own p i j)) := by
        intro s
        induction s with
        | zero =>
          intro j hj es
          refine ⟨([], false), ?_, rfl, fun z hz => by cases hz⟩
          refine evSucc (fun k => by rw [impl_Field_matchFrom.l0]) ?_
          exact evF (by omega) (evS _)
        | succ s ihs =>
          intro j hj es
          obtain ⟨r1, hr1, ht1⟩ := ihs (j + 1) (by omega) (by omega)
          have hstep : ∃ r, Ev (fun k => impl_Field_matchFrom.j1 k p i j (!candB L a b p i j) P L a b) r ∧ Tells r (((seg j (s + 1)).filter (candB L a b p i)).findSome? fun j => Mo P L a b d (own p i j)) := by
            simp only [seg, List.filter_cons]
            cases hc : candB L a b p i j with
            | false =>
              refine ⟨r1, ?_, by simpa using ht1⟩
              refine evSucc (fun k => by rw [impl_Field_matchFrom.j1, wrap_in (x := j + 1) (by omega) (by omega)]) ?_
              exact evT (by simp) hr1
            | true =>
              have hpj : rd p j = -1 := by
                unfold candB at hc
                rw [Bool.and_eq_true, decide_eq_true_eq] at hc
                exact hI.neg j (by omega) (by omega) hc.1
              obtain ⟨r0, hr0, ht0⟩ := ih (i + 1) (own p i j) (hI.own i j hi (by omega) (by omega) hpi hpj) (Told.own hI hi (by omega) hlow) (by omega)
              simp only [if_true, List.findSome?_cons]
              have hbase : ∀ r, Ev (fun k => (impl_Field_matchFrom.f k P L a b (own p i j)).bind fun bt476 => (if bt476.2 = true then (some (bt476.1, true)) else (impl_Field_matchFrom.l0 k p i (j + 1) P L a b))) r → Ev (fun k => impl_Field_matchFrom.j1 k p i j (!true) P L a b) r := by
                intro r hr
                refine evSucc (fun k => by rw [impl_Field_matchFrom.j1, wrap_in (x := j + 1) (by omega) (by omega)]) ?_
                refine evF (by simp) ?_
                refine evG (by unfold slices_Clone_int64_int64.f; rw [if_pos (by omega)]) ?_
                exact evT hi.1 (evT (by omega) (evT (by omega) (evT (by omega) hr)))
              cases ho : Mo P L a b d (own p i j) with
              | none =>
                rw [ho] at ht0
                refine ⟨r1, hbase r1 (evB hr0 (evF ?_ hr1)), ht1⟩
                rw [ht0.1]
                simp
              | some z =>
                rw [ho] at ht0
                refine ⟨(r0.1, true), hbase _ (evB hr0 (evT (by rw [ht0.1]; rfl) (evS _))), rfl, fun z' hz => ?_⟩
                rw [← Option.some.inj hz]
                exact ht0.2 z rfl
          obtain ⟨r, hr, ht⟩ := hstep
          refine ⟨r, ?_, ht⟩
          refine evSucc (fun k => by rw [impl_Field_matchFrom.l0]) ?_
          refine evT (by omega) ?_
          refine evG (colour_impl P L a b i hi.1) (evG (colour_impl P L a b j (by omega)) (evT (by omega) (evT (by omega) ?_)))
          unfold candB at hr
          by_cases c1 : rd p j < 0
          · rw [decide_eq_true c1, Bool.true_and] at hr
            refine evF (by omega) ?_
            refine evG (joins_impl P L a b i j (by omega) (by omega) (by omega)) ?_
            cases hjn : jn L i j with
            | true =>
              rw [hjn] at hr
              exact evT rfl hr
            | false =>
              rw [hjn, Bool.not_false, Bool.true_and] at hr
              unfold colOk at hr
              rw [col_case _ _ (dg_two h2 i.toNat) (dg_two h2 j.toNat)] at hr
              rw [col_dg a b i hsm.1 hsm.2 (by omega) (by omega), col_dg a b j hsm.1 hsm.2 (by omega) (by omega)]
              refine evF (by decide) ?_
              by_cases c3 : ((dg a b i.toNat : Nat) : Int) = ((dg a b j.toNat : Nat) : Int)
              · rw [if_pos c3] at hr
                exact evT c3 hr
              · rw [if_neg c3] at hr
                refine evF c3 ?_
                by_cases c4 : wrap64 (((dg a b i.toNat : Nat) : Int) * ((dg a b j.toNat : Nat) : Int)) = 2
                · rw [if_pos c4] at hr
                  exact evT c4 hr
                · rw [if_neg c4] at hr
                  exact evF c4 hr
          · rw [decide_eq_false c1, Bool.false_and] at hr
            exact evT (by omega) hr
      obtain ⟨r, hr, ht⟩ := key (P - i - 1).toNat (i + 1) (by omega) (by omega)
      refine ⟨r, ?_, ?_⟩
      · refine evSucc (fun k => by rw [impl_Field_matchFrom.f]) ?_
        refine evB hx (evF ?_ ?_)
        · show ¬ (i < 0)
          omega
        · show Ev (fun k => impl_Field_matchFrom.l0 k p i (wrap64 (i + 1)) P L a b) r
          rw [wrap_in (x := i + 1) (by omega) (by omega)]
          exact hr
      · simp only [Mo, e]
        exact ht
theorem from_spec (hP : 1 ≤ P ∧ P ≤ 8) (h2 : Two P.toNat a b) (d : Nat) : ∀ (q : Int) (p : List Int), Inv P p → Told P q p → P + 1 ≤ d + q → ∃ r, Ev (fun k => spec_l05Kept.f k P L a b p) r ∧ Tells r (Ko P L a b d p) := by
  induction d with
  | zero => intro q p _ h hd; have := h.1; omega
  | succ d ih =>
    intro q p hI hT hd
    have hlen := hI.1
    have hsm := h2.small (by omega)
    have hx := first_spec (L := L) (R := a) (B := b) hP hI
    cases e : fI P p with
    | none =>
      rw [e] at hx
      refine ⟨(p, true), ?_, ?_⟩
      · refine evSucc (fun k => by rw [spec_l05Kept.f]) (hx _ ?_)
        refine evSucc (fun k => by rw [spec_l05Kept.j1]) ?_
        exact evT rfl (evS _)
      · simp only [Ko, e]
        exact ⟨rfl, fun z hz => Option.some.inj hz⟩
    | some i =>
      rw [e] at hx
      obtain ⟨hi, hpi, hlow⟩ := fI_some hP.1 hI e
      have hiq : q ≤ i := by
        rcases Int.lt_or_le i q with c | c
        · have := hT.2 i hi.1 c
          omega
        · exact c
      have key : ∀ (s : Nat) (j : Int), i < j → j + s = P → ∃ r, Ev (fun k => spec_l05Kept.l1 k p i j P L a b) r ∧ Tells r (((seg j s).filter (candB L a b p i)).findSome? fun j => if mt P L (own p i j) = true then Ko P L a b d (own p i j) else none) := by
        intro s
        induction s with
        | zero =>
          intro j hj es
          refine ⟨([], false), ?_, rfl, fun z hz => by cases hz⟩
          refine evSucc (fun k => by rw [spec_l05Kept.l1]) ?_
          exact evF (by omega) (evS _)
        | succ s ihs =>
          intro j hj es
          obtain ⟨r1, hr1, ht1⟩ := ihs (j + 1) (by omega) (by omega)
          have hstep : ∃ r, Ev (fun k => spec_l05Kept.j3 k p i j (!candB L a b p i j) P L a b) r ∧ Tells r (((seg j (s + 1)).filter (candB L a b p i)).findSome? fun j => if mt P L (own p i j) = true then Ko P L a b d (own p i j) else none) := by
            simp only [seg, List.filter_cons]
            cases hc : candB L a b p i j with
            | false =>
              refine ⟨r1, ?_, by simpa using ht1⟩
              refine evSucc (fun k => by rw [spec_l05Kept.j3, wrap_in (x := j + 1) (by omega) (by omega)]) ?_
              exact evT (by simp) hr1
            | true =>
              have hpj : rd p j = -1 := by
                unfold candB at hc
                rw [Bool.and_eq_true, decide_eq_true_eq] at hc
                exact hI.neg j (by omega) (by omega) hc.1
              have hown := hI.own i j hi (by omega) (by omega) hpi hpj
              obtain ⟨r0, hr0, ht0⟩ := ih (i + 1) (own p i j) hown (Told.own hI hi (by omega) hlow) (by omega)
              have hm := matches_spec (L := L) (R := a) (B := b) hP hown
              simp only [if_true, List.findSome?_cons]
              have hbase : ∀ r, Ev (fun k => ((spec_l05Matches.f k P L a b (own p i j)).bind fun t439 => (if t439 = true then ((spec_l05Kept.f k P L a b (own p i j)).bind fun bt440 => (if bt440.2 = true then (some (bt440.1, true)) else (spec_l05Kept.l1 k p i (j + 1) P L a b))) else (spec_l05Kept.l1 k p i (j + 1) P L a b)))) r → Ev (fun k => spec_l05Kept.j3 k p i j (!true) P L a b) r := by
                intro r hr
                refine evSucc (fun k => by rw [spec_l05Kept.j3, wrap_in (x := j + 1) (by omega) (by omega)]) ?_
                refine evF (by simp) ?_
                refine evG (own_spec p (by omega)) ?_
                exact evT hi.1 (evT (by omega) (evT (by omega) (evT (by omega) (evG rfl hr))))
              cases hmt : mt P L (own p i j) with
              | false =>
                rw [hmt] at hm
                exact ⟨r1, hbase r1 (evB hm (evF (by decide) hr1)), ht1⟩
              | true =>
                rw [hmt] at hm
                rw [if_pos rfl]
                cases ho : Ko P L a b d (own p i j) with
                | none =>
                  rw [ho] at ht0
                  refine ⟨r1, hbase r1 (evB hm (evT rfl (evB hr0 (evF ?_ hr1)))), ht1⟩
                  rw [ht0.1]
                  simp
                | some z =>
                  rw [ho] at ht0
                  refine ⟨(r0.1, true), hbase _ (evB hm (evT rfl (evB hr0 (evT (by rw [ht0.1]; rfl) (evS _))))), rfl, fun z' hz => ?_⟩
                  rw [← Option.some.inj hz]
                  exact ht0.2 z rfl
          obtain ⟨r, hr, ht⟩ := hstep
          refine ⟨r, ?_, ht⟩
          refine evSucc (fun k => by rw [spec_l05Kept.l1, u64_at i hi.1 (by omega), u64_at j (by omega) (by omega)]) ?_
          refine evT (by omega) (evT (by omega) (evT (by omega) ?_))
          unfold candB at hr
          by_cases c1 : rd p j < 0
          · rw [decide_eq_true c1, Bool.true_and] at hr
            refine evF (by omega) ?_
            refine evG (joins_spec P L a b i j (by omega) (by omega)) ?_
            cases hjn : jn L i j with
            | true =>
              rw [hjn] at hr
              exact evT rfl hr
            | false =>
              rw [hjn, Bool.not_false, Bool.true_and] at hr
              unfold colOk at hr
              rw [bit_case a b _ _ (dg_two h2 i.toNat) (dg_two h2 j.toNat)] at hr
              rw [dig_bit a i hsm.1 (by omega) (by omega), dig_bit b j hsm.2 (by omega) (by omega), dig_bit b i hsm.2 (by omega) (by omega), dig_bit a j hsm.1 (by omega) (by omega)]
              refine evF (by decide) (evT hi.1 (evT (by omega) ?_))
              by_cases c3 : (((a.testBit i.toNat).toNat : Nat) : Int) = (((b.testBit j.toNat).toNat : Nat) : Int)
              · rw [if_pos c3] at hr
                exact evT c3 hr
              · rw [if_neg c3] at hr
                exact evF c3 hr
          · rw [decide_eq_false c1, Bool.false_and] at hr
            exact evT (by omega) hr
      obtain ⟨r, hr, ht⟩ := key (P - i - 1).toNat (i + 1) (by omega) (by omega)
      refine ⟨r, ?_, ?_⟩
      · refine evSucc (fun k => by rw [spec_l05Kept.f]) (hx _ ?_)
        refine evSucc (fun k => by rw [spec_l05Kept.j1]) ?_
        refine evF ?_ ?_
        · show ¬ (i = P)
          omega
        · show Ev (fun k => spec_l05Kept.l1 k p i (wrap64 (i + 1)) P L a b) r
          rw [wrap_in (x := i + 1) (by omega) (by omega)]
          exact hr
      · simp only [Ko, e]
        exact ht
theorem Mo_len (d : Nat) : ∀ p z, Mo P L a b d p = some z → z.length = p.length := by
  induction d with
  | zero => intro p z h; cases h
  | succ d ih =>
    intro p z h
    simp only [Mo] at h
    cases e : fI P p with
    | none =>
      rw [e] at h
      simp only at h
      split at h
      · rw [← Option.some.inj h]
      · cases h
    | some i =>
      rw [e] at h
      simp only at h
      obtain ⟨_, j, _, _, hj, _⟩ := List.findSome?_eq_some_iff.1 h
      have := ih _ _ hj
      rw [this]
      simp [own]
theorem rd_rep (n : Nat) (x v : Int) (h0 : 0 ≤ x) (h1 : x < n) : rd (List.replicate n v) x = v := by
  unfold rd
  rw [List.getD_eq_getElem?_getD, List.getElem?_replicate, if_pos (by omega)]
  rfl
theorem begin_spec (hP : 1 ≤ P ∧ P ≤ 8) (R B : Int) (r : List Int × Int) (hk : Ev (fun k => (spec_l05Kept.f k P L R B (List.replicate P.toNat (-1))).bind fun bt452 => (if bt452.2 = true then (some (bt452.1, (0 : Int))) else (some (([] : List Int), 4)))) r) (d : Nat) : ∀ x : Int, 0 ≤ x → x + d = P → Ev (fun k => spec_FindKept.l0 k (List.replicate x.toNat (-1)) x P L R B) r := by
  induction d with
  | zero =>
    intro x h0 e
    have : x = P := by omega
    subst this
    refine evSucc (fun k => by rw [spec_FindKept.l0]) ?_
    exact evF (by omega) hk
  | succ d ih =>
    intro x h0 e
    have e1 := ih (x + 1) (by omega) (by omega)
    refine evSucc (fun k => by rw [spec_FindKept.l0, wrap_in (x := x + 1) (by omega) (by omega)]) ?_
    refine evT (by omega) (evT (by simp; omega) ?_)
    rw [show (x + 1).toNat = x.toNat + 1 by omega, List.replicate_succ'] at e1
    exact e1
theorem both_kept (P L R B : Int) : ∃ (l : List Int) (c : Int), l.length ≤ 8 ∧ Ev (fun k => spec_FindKept.f k P L R B) (l, c) ∧ Ev (fun k => impl_FindKept.f k P L R B) (l, c) := by
  unfold spec_FindKept.f impl_FindKept.f
  rw [isField_same]
  obtain ⟨b, hb⟩ := field_total P L R B
  rw [hb]
  cases b with
  | false => exact ⟨[], 1, by simp, evG rfl (evF (by decide) (evS _)), evG rfl (evF (by decide) (evS _))⟩
  | true =>
    have hP := field_facts P L R B hb
    obtain ⟨m, n, rfl, rfl, h2⟩ := field_two P L R B hb
    have hI : Inv P (List.replicate P.toNat (-1)) := ⟨by simp; omega, fun x h0 h1 => .inl (rd_rep _ x _ h0 (by omega))⟩
    have hT : Told P 0 (List.replicate P.toNat (-1)) := ⟨by omega, fun x h0 h1 => by omega⟩
    have hm : mt P L (List.replicate P.toNat (-1)) = true := by
      rw [mt_iff]
      intro x y h0 h1 h2 h3
      rw [rd_rep _ x _ (by omega) (by omega)] at h3
      omega
    obtain ⟨r1, hr1, ht1⟩ := from_impl (L := L) hP h2 (P.toNat + 1) 0 _ hI hT (by omega)
    obtain ⟨r2, hr2, ht2⟩ := from_spec (L := L) hP h2 (P.toNat + 1) 0 _ hI hT (by omega)
    rw [← Mo_Ko hP.1 _ _ hI hm] at ht2
    have hrep : slices_Repeat.f [(-1)] P = some (List.replicate P.toNat (-1)) := by
      unfold slices_Repeat.f
      rw [if_pos ⟨rfl, by omega, by omega⟩]
      rfl
    cases ho : Mo P L m n (P.toNat + 1) (List.replicate P.toNat (-1)) with
    | none =>
      rw [ho] at ht1 ht2
      refine ⟨[], 4, by simp, evG rfl (evT rfl (begin_spec hP m n _ ?_ P.toNat 0 (by omega) (by omega))), evG rfl (evT rfl (evG hrep (evB hr1 (evF (by rw [ht1.1]; decide) (evS _)))))⟩
      exact evB hr2 (evF (by rw [ht2.1]; decide) (evS _))
    | some z =>
      rw [ho] at ht1 ht2
      have hz := Mo_len _ _ _ ho
      refine ⟨z, 0, by rw [hz]; simp; omega, evG rfl (evT rfl (begin_spec hP m n _ ?_ P.toNat 0 (by omega) (by omega))), evG rfl (evT rfl (evG hrep (evB hr1 (evT (by rw [ht1.1]; rfl) (evE (by rw [ht1.2 z rfl]) (evS _))))))⟩
      exact evB hr2 (evT (by rw [ht2.1]; rfl) (evE (by rw [ht2.2 z rfl]) (evS _)))
end
end Go.Proofs.Ytimoadhkkbedhaa.B
