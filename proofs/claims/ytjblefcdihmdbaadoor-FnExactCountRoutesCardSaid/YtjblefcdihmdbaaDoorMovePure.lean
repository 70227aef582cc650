/-
  Moves of cars: program and reference answer alike, of a track, a car with speeds from -5 to 5, and a move from 0 to 8.
-/
import Derived.Test.YtjblefcdihmdbaaDoorTrackImpl
import Derived.Test.YtjblefcdihmdbaaDoorOutOpen
import Derived.Test.YtjblefcdihmdbaaDoorQ1
namespace Go.Proofs.YtjblefcdihmdbaaDoor.B
open Go.RowKit Go.Proofs.YtjblefcdihmdbaaDoor.Q Go.Proofs.YtjblefcdihmdbaaDoorW.PrintWords Go.Proofs.YtjblefcdihmdbaaDoorW.PrintLast

theorem in_eq {a b c : Int} (h : b ≤ a) (k : a ≤ c) : spec_l01In.f a b c = some true := by
  unfold spec_l01In.f
  rw [if_pos h, decide_eq_true k]
theorem in_ne {a b c : Int} (h : ¬ (b ≤ a ∧ a ≤ c)) : spec_l01In.f a b c = some false := by
  unfold spec_l01In.f
  split
  · rename_i h1
    exact congrArg some (decide_eq_false (by omega))
  · rfl
theorem isT_rows {l : List ByteArray} (h : isT l = true) : 1 ≤ l.length ∧ l.length ≤ 16 ∧ 1 ≤ n0 l ∧ n0 l ≤ 16 ∧ ∀ y : Int, 0 ≤ y → y < l.length → (rdOf ByteArray.empty l y).size = n0 l := by
  unfold isT at h
  rw [scan_all] at h
  simp only [Bool.and_eq_true, decide_eq_true_eq, List.all_eq_true] at h
  obtain ⟨⟨h1, h2, h3, h4⟩, h5, _⟩ := h
  refine ⟨h1, h2, h3, h4, fun y hy0 hy1 => ?_⟩
  have hm : rdOf ByteArray.empty l y ∈ l := by
    unfold rdOf
    have hlt : y.toNat < l.length := by omega
    rw [List.getD_eq_getElem?_getD, List.getElem?_eq_getElem hlt]
    exact List.getElem_mem hlt
  have := h5 _ hm
  simp only [rowOk, Bool.and_eq_true, beq_iff_eq] at this
  exact this.1
/-- The sign of a square; a wall beside the track. -/
def sgn (l : List ByteArray) (x y : Int) : Int := if 0 ≤ y ∧ y < l.length ∧ 0 ≤ x ∧ x < n0 l then bt (rdOf ByteArray.empty l y) x else 35
theorem sgn_in {l : List ByteArray} {x y : Int} (cy : 0 ≤ y ∧ y < l.length) (cx : 0 ≤ x ∧ x < n0 l) : sgn l x y = bt (rdOf ByteArray.empty l y) x := if_pos ⟨cy.1, cy.2, cx.1, cx.2⟩
theorem sgn_out {l : List ByteArray} {x y : Int} (c : ¬ ((0 ≤ y ∧ y < l.length) ∧ (0 ≤ x ∧ x < n0 l))) : sgn l x y = 35 := if_neg (fun h => c ⟨⟨h.1, h.2.1⟩, h.2.2⟩)
theorem sign_impl {l : List ByteArray} (h : isT l = true) (x y : Int) : impl_sign.f l x y = some (sgn l x y) := by
  obtain ⟨h1, h2, h3, h4, h5⟩ := isT_rows h
  unfold impl_sign.f impl_size_string.f
  simp only [Option.bind_some]
  rw [wrap_in (x := (l.length : Int) - 1) (by omega) (by omega)]
  by_cases cy : 0 ≤ y ∧ y < l.length
  · rw [within_eq cy.1 (by omega)]
    have hz := h5 y cy.1 cy.2
    simp only [Option.bind_some, if_true]
    rw [if_pos cy.1, if_pos cy.2, hz, wrap_in (x := (n0 l : Int) - 1) (by omega) (by omega)]
    by_cases cx : 0 ≤ x ∧ x < n0 l
    · rw [within_eq cx.1 (by omega), sgn_in cy cx]
      simp only [Option.bind_some, if_true]
      rw [if_pos cx.1, if_pos cx.2]
    · rw [within_ne (by omega), sgn_out (fun h => cx h.2)]
      rfl
  · rw [within_ne (by omega), sgn_out (fun h => cy h.1)]
    rfl
theorem free_spec {l : List ByteArray} (h : isT l = true) (x y : Int) : spec_l08Free.f l x y = some (sgn l x y != 35) := by
  obtain ⟨h1, h2, h3, h4, h5⟩ := isT_rows h
  unfold spec_l08Free.f
  rw [wrap_in (x := (l.length : Int) - 1) (by omega) (by omega)]
  by_cases cy : 0 ≤ y ∧ y < l.length
  · rw [in_eq cy.1 (by omega)]
    have hz := h5 y cy.1 cy.2
    simp only [Option.bind_some, if_true]
    rw [if_pos (by omega)]
    change ((spec_l01In.f x 0 (wrap64 ((n0 l : Int) - 1))).bind _) = _
    rw [wrap_in (x := (n0 l : Int) - 1) (by omega) (by omega)]
    by_cases cx : 0 ≤ x ∧ x < n0 l
    · rw [in_eq cx.1 (by omega), sgn_in cy cx]
      simp only [Option.bind_some, if_true]
      rw [if_pos cy.1, if_pos cy.2, if_pos cx.1, hz, if_pos cx.2]
    · rw [in_ne (by omega), sgn_out (fun h => cx h.2)]
      rfl
  · rw [in_ne (by omega), sgn_out (fun h => cy h.1)]
    rfl
def speedOk (u v : Int) : Bool := decide (-5 ≤ u ∧ u ≤ 5) && decide (-5 ≤ v ∧ v ≤ 5)
theorem isCar_impl {l : List ByteArray} (h : isT l = true) (x y u v : Int) : impl_isCar.f l x y u v = some ((sgn l x y != 35) && speedOk u v) := by
  unfold impl_isCar.f
  rw [sign_impl h]
  simp only [Option.bind_some]
  by_cases c : sgn l x y = 35
  · rw [if_pos c]
    simp [c]
  · rw [if_neg c]
    have e : (sgn l x y != 35) = true := by simpa using c
    rw [e, Bool.true_and]
    unfold impl_areSpeeds.f speedOk
    by_cases cu : -5 ≤ u ∧ u ≤ 5
    · rw [within_eq cu.1 cu.2, decide_eq_true cu]
      simp only [Option.bind_some, if_true, Bool.true_and]
      by_cases cv : -5 ≤ v ∧ v ≤ 5
      · rw [within_eq cv.1 cv.2, decide_eq_true cv]
        rfl
      · rw [within_ne cv, decide_eq_false cv]
        rfl
    · rw [within_ne cu, decide_eq_false cu]
      rfl
theorem crossed_eq (k : Nat) : ∀ (m : Int) (out : List (List Int)) (i c0 c1 c2 c3 x y u v : Int), impl_Car_crossed.l0 k m out i c0 c1 c2 c3 x y u v = spec_l08Crossed.l0 k u v m out i c0 c1 c2 c3 := by
  induction k with
  | zero => intros; rfl
  | succ k ih =>
    intro m out i c0 c1 c2 c3 x y u v
    simp only [impl_Car_crossed.l0, spec_l08Crossed.l0]
    have e : ∀ a b, impl_floorDiv.f a b = spec_l08Floor.f a b := fun a b => rfl
    simp only [e, ih]
def stepU (c2 m : Int) : Int := wrap64 (wrap64 (c2 + wrap64 (Int.tdiv m 3)) - 1)
def stepV (c3 m : Int) : Int := wrap64 (wrap64 (c3 + Int.tmod m 3) - 1)
theorem crossed_f (k : Nat) (c0 c1 c2 c3 m : Int) : impl_Car_crossed.f k c0 c1 c2 c3 m = spec_l08Crossed.f k c0 c1 c2 c3 (stepU c2 m) (stepV c3 m) := by
  unfold impl_Car_crossed.f spec_l08Crossed.f impl_Car_driven.f
  simp only [Option.bind_some]
  exact crossed_eq _ _ _ _ _ _ _ _ _ _ _ _
theorem floor_some (a b : Int) (h : b ≠ 0) : ∃ q, spec_l08Floor.f a b = some q := by
  unfold spec_l08Floor.f
  rw [if_neg h]
  split
  · exact ⟨_, rfl⟩
  · exact ⟨_, rfl⟩
theorem crossed_l (u v m c0 c1 c2 c3 : Int) (hm : m ≤ 1000) (d : Nat) : ∀ (i : Int) (out : List (List Int)), 1 ≤ i → m ≤ i + d → out.length + d ≤ 2000 → (∀ s ∈ out, s.length = 2) →
    ∃ xs, (∀ k, d < k → spec_l08Crossed.l0 k u v m out i c0 c1 c2 c3 = some xs) ∧ (∀ s ∈ xs, s.length = 2) ∧ xs.length ≤ out.length + d := by
  induction d with
  | zero =>
    intro i out h1 h2 h3 h4
    refine ⟨out, fun k hk => ?_, h4, by omega⟩
    obtain ⟨k, rfl⟩ : ∃ m, k = m + 1 := ⟨k - 1, by omega⟩
    rw [spec_l08Crossed.l0, if_neg (by omega)]
  | succ d ih =>
    intro i out h1 h2 h3 h4
    by_cases c : i < m
    · have e2 : wrap64 (2 * m) = 2 * m := wrap_in (by omega) (by omega)
      obtain ⟨q1, hq1⟩ := floor_some (wrap64 ((wrap64 ((wrap64 (2 * i)) * u)) + m)) (2 * m) (by omega)
      obtain ⟨q2, hq2⟩ := floor_some (wrap64 ((wrap64 ((wrap64 (2 * i)) * v)) + m)) (2 * m) (by omega)
      obtain ⟨xs, g1, g2, g3⟩ := ih (i + 1) (out ++ [[wrap64 (c0 + q1), wrap64 (c1 + q2)]]) (by omega) (by omega) (by simp; omega) (fun s hs => by
        rcases List.mem_append.1 hs with h | h
        · exact h4 s h
        · have : s = [wrap64 (c0 + q1), wrap64 (c1 + q2)] := by simpa using h
          rw [this]
          rfl)
      refine ⟨xs, fun k hk => ?_, g2, by simp at g3; omega⟩
      obtain ⟨k, rfl⟩ : ∃ m, k = m + 1 := ⟨k - 1, by omega⟩
      rw [spec_l08Crossed.l0, e2, hq1, hq2, if_pos c, wrap_in (x := i + 1) (by omega) (by omega)]
      simp only [Option.bind_some]
      rw [if_pos (by omega)]
      exact g1 k (by omega)
    · refine ⟨out, fun k hk => ?_, h4, by omega⟩
      obtain ⟨k, rfl⟩ : ∃ m, k = m + 1 := ⟨k - 1, by omega⟩
      rw [spec_l08Crossed.l0, if_neg c]
/-- The squares that a move crosses. -/
def crossL (c0 c1 c2 c3 u v : Int) : List (List Int) := (spec_l08Crossed.f 2000 c0 c1 c2 c3 u v).getD []
theorem crossed_some (c0 c1 c2 c3 u v : Int) (hu : -100 ≤ u ∧ u ≤ 100) (hv : -100 ≤ v ∧ v ≤ 100) : (∀ k, 1000 < k → spec_l08Crossed.f k c0 c1 c2 c3 u v = some (crossL c0 c1 c2 c3 u v)) ∧ (∀ s ∈ crossL c0 c1 c2 c3 u v, s.length = 2) ∧ (crossL c0 c1 c2 c3 u v).length ≤ 1000 := by
  have key : ∃ xs, (∀ k, 1000 < k → spec_l08Crossed.f k c0 c1 c2 c3 u v = some xs) ∧ (∀ s ∈ xs, s.length = 2) ∧ xs.length ≤ 1000 := by
    unfold spec_l08Crossed.f
    rw [wrap_in (x := -u) (by omega) (by omega), wrap_in (x := -v) (by omega) (by omega)]
    have hm : mx (mx (mx u (-u)) v) (-v) ≤ 1000 := by unfold mx; omega
    generalize mx (mx (mx u (-u)) v) (-v) = m at hm
    obtain ⟨xs, h1, h2, h3⟩ := crossed_l u v m c0 c1 c2 c3 hm 1000 1 [] (by omega) (by omega) (by simp) (fun s h => by cases h)
    exact ⟨xs, h1, h2, by simpa using h3⟩
  obtain ⟨xs, h1, h2, h3⟩ := key
  have e : crossL c0 c1 c2 c3 u v = xs := by
    unfold crossL
    rw [h1 2000 (by omega)]
    rfl
  rw [e]
  exact ⟨h1, h2, h3⟩
theorem crossed_ev (c0 c1 c2 c3 u v : Int) (hu : -100 ≤ u ∧ u ≤ 100) (hv : -100 ≤ v ∧ v ≤ 100) : Ev (fun k => spec_l08Crossed.f k c0 c1 c2 c3 u v) (crossL c0 c1 c2 c3 u v) :=
  ⟨1001, fun k hk => (crossed_some c0 c1 c2 c3 u v hu hv).1 k (by omega)⟩
def wallB (l : List ByteArray) (s : List Int) : Bool := sgn l (rd s 0) (rd s 1) == 35
theorem wall_eq {l : List ByteArray} (h : isT l = true) (s : List Int) (hs : s.length = 2) : wallP l s = some (wallB l s) := by
  unfold wallP
  rw [if_pos (by omega), sign_impl h]
  rfl
theorem rd_mid_row (p : List (List Int)) (x : List Int) (q : List (List Int)) (i : Int) (hi : i = p.length) : (p ++ x :: q).getD i.toNat ([] : List Int) = x := by
  subst hi
  simp
theorem walls_spec {l : List ByteArray} (h : isT l = true) (u v c0 c1 c2 c3 : Int) (xs : List (List Int)) (hx : ∀ s ∈ xs, s.length = 2) (hxl : xs.length ≤ 1000) (rest : List (List Int)) : ∀ (pre : List (List Int)) (i : Int), xs = pre ++ rest → i = pre.length →
    Ev (fun k => spec_l08Move.l0 k l u v xs i c0 c1 c2 c3) (if rest.any (wallB l) = true then (0, 0, 0, 0, false) else (wrap64 (c0 + u), wrap64 (c1 + v), u, v, true)) := by
  induction rest with
  | nil =>
    intro pre i hp hi
    refine evSucc (fun k => by rw [spec_l08Move.l0]) ?_
    exact evF (by rw [hp]; simp; omega) (evS _)
  | cons s rest ih =>
    intro pre i hp hi
    have hlt : i < (xs.length : Int) := by rw [hp, hi]; simp; omega
    have hs : rd_L2 xs i = s := by rw [hp]; exact rd_mid_row pre s rest i hi
    have hlen := hx s (by rw [hp]; simp)
    refine evSucc (fun k => by rw [spec_l08Move.l0]) ?_
    rw [hs, free_spec h]
    refine evT hlt (evT (by omega) (evT (by omega) (evT (by omega) (evG rfl ?_))))
    rw [wrap_in (x := i + 1) (by omega) (by omega), List.any_cons]
    by_cases c : sgn l (rd s 0) (rd s 1) = 35
    · refine evF (by simp [c]) ?_
      have : wallB l s = true := by simp [wallB, c]
      rw [this]
      exact evS _
    · refine evT (by simpa using c) ?_
      have : wallB l s = false := by simp [wallB, c]
      rw [this, Bool.false_or]
      exact ih (pre ++ [s]) (i + 1) (by rw [hp]; simp) (by simp; omega)
theorem step_small (c m : Int) (hc : -5 ≤ c ∧ c ≤ 5) (hm : 0 ≤ m ∧ m ≤ 8) : (-100 ≤ stepU c m ∧ stepU c m ≤ 100) ∧ (-100 ≤ stepV c m ∧ stepV c m ≤ 100) := by
  have h1 : Int.tdiv m 3 = m / 3 := Int.tdiv_eq_ediv_of_nonneg hm.1
  have h2 : Int.tmod m 3 = m % 3 := Int.tmod_eq_emod_of_nonneg hm.1
  unfold stepU stepV
  rw [h1, h2]
  rw [wrap_in (x := m / 3) (by omega) (by omega), wrap_in (x := c + m / 3) (by omega) (by omega), wrap_in (x := c + m / 3 - 1) (by omega) (by omega), wrap_in (x := c + m % 3) (by omega) (by omega), wrap_in (x := c + m % 3 - 1) (by omega) (by omega)]
  omega
/-- The car behind a move. -/
def nextCar (c0 c1 c2 c3 m : Int) : Int × Int × Int × Int := (wrap64 (c0 + stepU c2 m), wrap64 (c1 + stepV c3 m), stepU c2 m, stepV c3 m)
theorem driven_eq (c0 c1 c2 c3 m : Int) : impl_Car_driven.f c0 c1 c2 c3 m = some (nextCar c0 c1 c2 c3 m) := rfl
/-- Whether a move is open. -/
def openB (l : List ByteArray) (c0 c1 c2 c3 m : Int) : Bool :=
  ((sgn l (wrap64 (c0 + stepU c2 m)) (wrap64 (c1 + stepV c3 m)) != 35) && speedOk (stepU c2 m) (stepV c3 m)) && !((crossL c0 c1 c2 c3 (stepU c2 m) (stepV c3 m)).any (wallB l))
/-- What the reference's move answers. -/
def moveR (l : List ByteArray) (c0 c1 c2 c3 m : Int) : Int × Int × Int × Int × Bool :=
  if openB l c0 c1 c2 c3 m = true then (wrap64 (c0 + stepU c2 m), wrap64 (c1 + stepV c3 m), stepU c2 m, stepV c3 m, true) else (0, 0, 0, 0, false)
theorem open_impl {l : List ByteArray} (h : isT l = true) (c0 c1 c2 c3 m : Int) (h2 : -5 ≤ c2 ∧ c2 ≤ 5) (h3 : -5 ≤ c3 ∧ c3 ≤ 5) (hm : 0 ≤ m ∧ m ≤ 8) : Ev (fun k => impl_isOpen.f k l c0 c1 c2 c3 m) (openB l c0 c1 c2 c3 m) := by
  have hU := (step_small c2 m h2 hm).1
  have hV := (step_small c3 m h3 hm).2
  obtain ⟨hx, hx2, _⟩ := crossed_some c0 c1 c2 c3 _ _ hU hV
  unfold impl_isOpen.f openB
  refine evG (driven_eq c0 c1 c2 c3 m) ?_
  refine evG (isCar_impl h _ _ _ _) ?_
  simp only [nextCar]
  by_cases c : ((sgn l (wrap64 (c0 + stepU c2 m)) (wrap64 (c1 + stepV c3 m)) != 35) && speedOk (stepU c2 m) (stepV c3 m)) = true
  · refine evT c ?_
    rw [c, Bool.true_and]
    simp only [crossed_f]
    refine evB (crossed_ev c0 c1 c2 c3 _ _ hU hV) ?_
    refine evG (anyF_any _ (wallB l) _ (fun s hs => wall_eq h s (hx2 s hs))) (evS _)
  · refine evF c ?_
    have e : ((sgn l (wrap64 (c0 + stepU c2 m)) (wrap64 (c1 + stepV c3 m)) != 35) && speedOk (stepU c2 m) (stepV c3 m)) = false := by simpa using c
    rw [e]
    exact evS _
theorem speedOk_iff (u v : Int) : speedOk u v = true ↔ (-5 ≤ u ∧ u ≤ 5) ∧ (-5 ≤ v ∧ v ≤ 5) := by simp [speedOk]
theorem move_spec {l : List ByteArray} (h : isT l = true) (c0 c1 c2 c3 m : Int) (h2 : -5 ≤ c2 ∧ c2 ≤ 5) (h3 : -5 ≤ c3 ∧ c3 ≤ 5) (hm : 0 ≤ m ∧ m ≤ 8) : Ev (fun k => spec_l08Move.f k l c0 c1 c2 c3 m) (moveR l c0 c1 c2 c3 m) := by
  have hU := (step_small c2 m h2 hm).1
  have hV := (step_small c3 m h3 hm).2
  obtain ⟨hx, hx2, hx3⟩ := crossed_some c0 c1 c2 c3 _ _ hU hV
  have hno : ∀ u v : Int, Ev (fun k => spec_l08Move.j0 k l u v true c0 c1 c2 c3) (0, 0, 0, 0, false) := fun u v => evSucc (fun k => by rw [spec_l08Move.j0]) (evT rfl (evS _))
  unfold spec_l08Move.f moveR openB
  change Ev (fun k => (spec_l01In.f (stepU c2 m) (-5) 5).bind fun t194 => _) _
  by_cases cu : -5 ≤ stepU c2 m ∧ stepU c2 m ≤ 5
  · refine evG (in_eq cu.1 cu.2) (evT rfl ?_)
    by_cases cv : -5 ≤ stepV c3 m ∧ stepV c3 m ≤ 5
    · refine evG (in_eq cv.1 cv.2) (evT rfl (evG (free_spec h _ _) ?_))
      rw [(speedOk_iff _ _).2 ⟨cu, cv⟩, Bool.and_true]
      refine evSucc (fun k => by rw [spec_l08Move.j0]) ?_
      by_cases cs : sgn l (wrap64 (c0 + stepU c2 m)) (wrap64 (c1 + stepV c3 m)) = 35
      · have e : (sgn l (wrap64 (c0 + stepU c2 m)) (wrap64 (c1 + stepV c3 m)) != 35) = false := by simp [cs]
        rw [e]
        refine evT (by show (!(sgn l (wrap64 (c0 + stepU c2 m)) (wrap64 (c1 + stepV c3 m)) != 35)) = true; rw [e]; rfl) ?_
        exact evS _
      · have e : (sgn l (wrap64 (c0 + stepU c2 m)) (wrap64 (c1 + stepV c3 m)) != 35) = true := by simpa using cs
        rw [e, Bool.true_and]
        refine evF (by show ¬ (!(sgn l (wrap64 (c0 + stepU c2 m)) (wrap64 (c1 + stepV c3 m)) != 35)) = true; rw [e]; simp) ?_
        refine evB (crossed_ev c0 c1 c2 c3 _ _ hU hV) ?_
        refine evE ?_ (walls_spec h (stepU c2 m) (stepV c3 m) c0 c1 c2 c3 _ hx2 hx3 (crossL c0 c1 c2 c3 (stepU c2 m) (stepV c3 m)) [] 0 rfl rfl)
        cases (crossL c0 c1 c2 c3 (stepU c2 m) (stepV c3 m)).any (wallB l) <;> rfl
    · refine evG (in_ne cv) (evF (by simp) ?_)
      have e : speedOk (stepU c2 m) (stepV c3 m) = false := by
        cases q : speedOk (stepU c2 m) (stepV c3 m) with
        | false => rfl
        | true => exact absurd ((speedOk_iff _ _).1 q).2 cv
      rw [e, Bool.and_false, Bool.false_and]
      exact hno _ _
  · refine evG (in_ne cu) (evF (by simp) ?_)
    have e : speedOk (stepU c2 m) (stepV c3 m) = false := by
      cases q : speedOk (stepU c2 m) (stepV c3 m) with
      | false => rfl
      | true => exact absurd ((speedOk_iff _ _).1 q).1 cu
    rw [e, Bool.and_false, Bool.false_and]
    exact hno _ _
/-- An open move's car has right speeds and stands on a free square. -/
theorem open_next {l : List ByteArray} {c0 c1 c2 c3 m : Int} (h : openB l c0 c1 c2 c3 m = true) : (-5 ≤ stepU c2 m ∧ stepU c2 m ≤ 5) ∧ (-5 ≤ stepV c3 m ∧ stepV c3 m ≤ 5) ∧ sgn l (wrap64 (c0 + stepU c2 m)) (wrap64 (c1 + stepV c3 m)) ≠ 35 := by
  unfold openB at h
  simp only [Bool.and_eq_true] at h
  have := (speedOk_iff _ _).1 h.1.2
  exact ⟨this.1, this.2, by simpa using h.1.1⟩
end Go.Proofs.YtjblefcdihmdbaaDoor.B
