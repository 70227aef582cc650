/-
  Kept matchings: the program's search, that tests at its end, and the reference's, that tests at each step, come to the same. Fields alone, as the facts ask.
-/
import Derived.Test.YtimoadhkkbedhaaFieldBits
import Derived.Test.YtimoadhkkbedhaaQ28
import Derived.Test.YtimoadhkkbedhaaQ19
namespace Go.Proofs.Ytimoadhkkbedhaa.B
open Go.RowKit Go.Proofs.Ytimoadhkkbedhaa.Q Go.Proofs.YtimoadhkkbedhaaW.PrintWords Go.Proofs.YtimoadhkkbedhaaW.PrintLast Go.Proofs.YtimoadhkkbedhaaW.PrintMore

theorem rd_set (l : List Int) (a x v : Int) (h0 : 0 ≤ a) (h1 : a < l.length) (h2 : 0 ≤ x) : rd (l.set a.toNat v) x = if x = a then v else rd l x := by
  unfold rd
  rw [List.getD_eq_getElem?_getD, List.getD_eq_getElem?_getD]
  by_cases e : x = a
  · subst e
    rw [if_pos rfl, List.getElem?_set_self (by omega)]
    rfl
  · rw [if_neg e, List.getElem?_set_ne (by omega)]
/-- A matching that is told in part: -1 stands for what is not told. -/
def Inv (P : Int) (p : List Int) : Prop := (p.length : Int) = P ∧ ∀ x : Int, 0 ≤ x → x < P → rd p x = -1 ∨ ((0 ≤ rd p x ∧ rd p x < P) ∧ rd p x ≠ x ∧ rd p (rd p x) = x)
def own (p : List Int) (i j : Int) : List Int := (p.set i.toNat j).set j.toNat i
theorem rd_own {P : Int} {p : List Int} (h : Inv P p) (i j x : Int) (hi : 0 ≤ i ∧ i < P) (hj : 0 ≤ j ∧ j < P) (hx : 0 ≤ x) : rd (own p i j) x = if x = j then i else if x = i then j else rd p x := by
  have hl := h.1
  unfold own
  rw [rd_set _ j x i hj.1 (by simp; omega) hx, rd_set _ i x j hi.1 (by omega) hx]
theorem Inv.own {P : Int} {p : List Int} (h : Inv P p) (i j : Int) (hi : 0 ≤ i ∧ i < P) (hj : 0 ≤ j ∧ j < P) (hne : i ≠ j) (hpi : rd p i = -1) (hpj : rd p j = -1) : Inv P (own p i j) := by
  refine ⟨by have := h.1; simp [B.own]; omega, fun x h0 h1 => ?_⟩
  rw [rd_own h i j x hi hj h0]
  by_cases e1 : x = j
  · subst e1
    rw [if_pos rfl]
    refine .inr ⟨hi, hne, ?_⟩
    rw [rd_own h i x i hi hj hi.1, if_neg hne, if_pos rfl]
  · rw [if_neg e1]
    by_cases e2 : x = i
    · subst e2
      rw [if_pos rfl]
      refine .inr ⟨hj, fun e => hne e.symm, ?_⟩
      rw [rd_own h x j j hi hj hj.1, if_pos rfl]
    · rw [if_neg e2]
      rcases h.2 x h0 h1 with c | ⟨c1, c2, c3⟩
      · exact .inl c
      · refine .inr ⟨c1, c2, ?_⟩
        have e3 : rd p x ≠ j := fun e => by rw [e, hpj] at c3; omega
        have e4 : rd p x ≠ i := fun e => by rw [e, hpi] at c3; omega
        rw [rd_own h i j _ hi hj c1.1, if_neg e3, if_neg e4]
        exact c3
/-- What is told keeps the lines. -/
def mtR (L : Int) (p : List Int) (x y : Int) : Bool := decide (rd p y < 0) || (jn L x y == jn L (rd p x) (rd p y))
def mtX (L : Int) (p : List Int) (x : Int) : Bool := decide (rd p x < 0) || (seg 0 x.toNat).all (mtR L p x)
def mt (P L : Int) (p : List Int) : Bool := (seg 0 P.toNat).all (mtX L p)
theorem mt_iff {P L : Int} {p : List Int} : mt P L p = true ↔ ∀ x y : Int, 0 ≤ y → y < x → x < P.toNat → 0 ≤ rd p x → 0 ≤ rd p y → jn L x y = jn L (rd p x) (rd p y) := by
  unfold mt
  rw [List.all_eq_true]
  constructor
  · intro h x y h0 h1 h2 h3 h4
    have h5 := h x ((mem_seg _ _ _).2 ⟨by omega, by omega⟩)
    unfold mtX at h5
    rw [decide_eq_false (by omega), Bool.false_or, List.all_eq_true] at h5
    have h6 := h5 y ((mem_seg _ _ _).2 ⟨h0, by omega⟩)
    unfold mtR at h6
    rw [decide_eq_false (by omega), Bool.false_or] at h6
    exact eq_of_beq h6
  · intro h x hx
    have hx2 := (mem_seg _ _ _).1 hx
    unfold mtX
    by_cases c : rd p x < 0
    · rw [decide_eq_true c]; rfl
    · rw [decide_eq_false c, Bool.false_or, List.all_eq_true]
      intro y hy
      have hy2 := (mem_seg _ _ _).1 hy
      unfold mtR
      by_cases c2 : rd p y < 0
      · rw [decide_eq_true c2]; rfl
      · rw [decide_eq_false c2, Bool.false_or]
        exact beq_iff_eq.2 (h x y (by omega) (by omega) (by omega) (by omega) (by omega))
theorem mt_own {P L : Int} {p : List Int} (h : Inv P p) (i j : Int) (hi : 0 ≤ i ∧ i < P) (hj : 0 ≤ j ∧ j < P) (hpi : rd p i = -1) (hpj : rd p j = -1) (hm : mt P L (own p i j) = true) : mt P L p = true := by
  rw [mt_iff] at hm ⊢
  intro x y h0 h1 h2 h3 h4
  have e1 : x ≠ i := fun e => by rw [e] at h3; omega
  have e2 : x ≠ j := fun e => by rw [e] at h3; omega
  have e3 : y ≠ i := fun e => by rw [e] at h4; omega
  have e4 : y ≠ j := fun e => by rw [e] at h4; omega
  have hx := rd_own h i j x hi hj (by omega)
  have hy := rd_own h i j y hi hj h0
  rw [if_neg e2, if_neg e1] at hx
  rw [if_neg e4, if_neg e3] at hy
  have := hm x y h0 h1 h2 (by rw [hx]; exact h3) (by rw [hy]; exact h4)
  rwa [hx, hy] at this
/-- Whether two points may change places. -/
def colOk (a b : Nat) (i j : Int) : Bool := (dg a b i.toNat == 0 && dg a b j.toNat == 0) || (dg a b i.toNat == 1 && dg a b j.toNat == 2) || (dg a b i.toNat == 2 && dg a b j.toNat == 1)
def candB (L : Int) (a b : Nat) (p : List Int) (i j : Int) : Bool := decide (rd p j < 0) && (!jn L i j && colOk a b i j)
def cands (P L : Int) (a b : Nat) (p : List Int) (i : Int) : List Int := (seg (i + 1) (P - i - 1).toNat).filter (candB L a b p i)
def fI (P : Int) (p : List Int) : Option Int := (seg 0 P.toNat).find? (fun x => decide (rd p x < 0))
def Mo (P L : Int) (a b : Nat) : Nat → List Int → Option (List Int)
  | 0, _ => none
  | d + 1, p => match fI P p with
    | none => if mt P L p = true then some p else none
    | some i => (cands P L a b p i).findSome? fun j => Mo P L a b d (own p i j)
def Ko (P L : Int) (a b : Nat) : Nat → List Int → Option (List Int)
  | 0, _ => none
  | d + 1, p => match fI P p with
    | none => some p
    | some i => (cands P L a b p i).findSome? fun j => if mt P L (own p i j) = true then Ko P L a b d (own p i j) else none
theorem fI_some {P : Int} {p : List Int} {i : Int} (hP : 1 ≤ P) (h : Inv P p) (e : fI P p = some i) : (0 ≤ i ∧ i < P) ∧ rd p i = -1 ∧ ∀ x, 0 ≤ x → x < i → 0 ≤ rd p x := by
  unfold fI at e
  have h1 := List.find?_some e
  have h2 := (mem_seg _ _ _).1 (List.mem_of_find?_eq_some e)
  have h3 : rd p i < 0 := of_decide_eq_true h1
  refine ⟨by omega, ?_, fun x hx0 hxi => ?_⟩
  · rcases h.2 i (by omega) (by omega) with c | c
    · exact c
    · omega
  · have key : ∀ (d : Nat) (s : Int), (seg s d).find? (fun x => decide (rd p x < 0)) = some i → ∀ x, s ≤ x → x < i → 0 ≤ rd p x := by
      intro d
      induction d with
      | zero => intro s e; simp [seg] at e
      | succ d ih =>
        intro s e x h4 h5
        simp only [seg, List.find?_cons] at e
        by_cases c : rd p s < 0
        · rw [decide_eq_true c] at e
          have := Option.some.inj e
          omega
        · rw [decide_eq_false c] at e
          by_cases c2 : x = s
          · subst c2; omega
          · exact ih (s + 1) e x (by omega) h5
    exact key _ 0 e x hx0 hxi
theorem fI_none {P : Int} {p : List Int} (e : fI P p = none) : ∀ x, 0 ≤ x → x < P → 0 ≤ rd p x := by
  intro x h0 h1
  unfold fI at e
  have := List.find?_eq_none.1 e x ((mem_seg _ _ _).2 ⟨h0, by omega⟩)
  simpa using this
theorem mem_cands {P L : Int} {a b : Nat} {p : List Int} {i j : Int} (hi : 0 ≤ i ∧ i < P) (h : Inv P p) (hj : j ∈ cands P L a b p i) : (i < j ∧ j < P) ∧ rd p j = -1 := by
  obtain ⟨h1, h2⟩ := List.mem_filter.1 hj
  have h3 := (mem_seg _ _ _).1 h1
  unfold candB at h2
  rw [Bool.and_eq_true, decide_eq_true_eq] at h2
  refine ⟨by omega, ?_⟩
  rcases h.2 j (by omega) (by omega) with c | c
  · exact c
  · omega
theorem Mo_bad {P L : Int} {a b : Nat} (hP : 1 ≤ P) (d : Nat) : ∀ p, Inv P p → mt P L p = false → Mo P L a b d p = none := by
  induction d with
  | zero => intro p _ _; rfl
  | succ d ih =>
    intro p h hm
    simp only [Mo]
    cases e : fI P p with
    | none => simp only; rw [hm]; rfl
    | some i =>
      simp only
      obtain ⟨hi, hpi, _⟩ := fI_some hP h e
      rw [List.findSome?_eq_none_iff]
      intro j hj
      obtain ⟨hj1, hpj⟩ := mem_cands hi h hj
      refine ih _ (h.own i j hi (by omega) (by omega) hpi hpj) ?_
      cases c : mt P L (own p i j) with
      | false => rfl
      | true =>
        have := mt_own h i j hi (by omega) hpi hpj c
        rw [hm] at this
        cases this
theorem findSome_congr {α : Type} {l : List Int} {f g : Int → Option α} (h : ∀ x ∈ l, f x = g x) : l.findSome? f = l.findSome? g := by
  induction l with
  | nil => rfl
  | cons x l ih =>
    simp only [List.findSome?_cons]
    rw [h x List.mem_cons_self, ih (fun y hy => h y (List.mem_cons_of_mem _ hy))]
theorem Mo_Ko {P L : Int} {a b : Nat} (hP : 1 ≤ P) (d : Nat) : ∀ p, Inv P p → mt P L p = true → Mo P L a b d p = Ko P L a b d p := by
  induction d with
  | zero => intro p _ _; rfl
  | succ d ih =>
    intro p h hm
    simp only [Mo, Ko]
    cases e : fI P p with
    | none => simp only; rw [if_pos hm]
    | some i =>
      simp only
      obtain ⟨hi, hpi, _⟩ := fI_some hP h e
      refine findSome_congr (fun j hj => ?_)
      obtain ⟨hj1, hpj⟩ := mem_cands hi h hj
      have ho := h.own i j hi (by omega) (by omega) hpi hpj
      cases c : mt P L (own p i j) with
      | true => rw [if_pos rfl]; exact ih _ ho c
      | false => rw [if_neg (by simp)]; exact Mo_bad hP d _ ho c
/-- What a search tells: whether it has found, and then what. -/
def Tells (r : List Int × Bool) (o : Option (List Int)) : Prop := r.2 = o.isSome ∧ ∀ z, o = some z → r.1 = z
end Go.Proofs.Ytimoadhkkbedhaa.B
