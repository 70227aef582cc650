/-
  Routes: program and reference come to the same car, of a track and moves from 0 to 8.
-/
import Derived.Test.YtikpbmgbemcheaaDoorCarPure
import Derived.Test.YtikpbmgbemcheaaDoorFirstPure
import Derived.Test.YtikpbmgbemcheaaDoorOutDrive
import Derived.Test.YtikpbmgbemcheaaDoorQ12
import Derived.Test.YtikpbmgbemcheaaDoorQ20
namespace Go.Proofs.YtikpbmgbemcheaaDoor.B
open Go.RowKit Go.Proofs.YtikpbmgbemcheaaDoor.Q Go.Proofs.YtikpbmgbemcheaaDoorW.PrintWords Go.Proofs.YtikpbmgbemcheaaDoorW.PrintLast

theorem rd_mid_int (p : List Int) (x : Int) (q : List Int) (i : Int) (hi : i = p.length) : rd (p ++ x :: q) i = x := by
  subst hi
  simp [rd]
/-- The car behind the moves, and the code. -/
def drive (l : List ByteArray) : List Int → Int → Int → Int → Int → Int × Int × Int × Int × Int
  | [], a, b, c, d => (a, b, c, d, 0)
  | m :: ms, a, b, c, d => if openB l a b c d m = true then drive l ms (wrap64 (a + stepU c m)) (wrap64 (b + stepV d m)) (stepU c m) (stepV d m) else (0, 0, 0, 0, 5)
theorem drive_spec {l : List ByteArray} (h : isT l = true) (ms : List Int) (hl : ms.length ≤ 1000) (hms : ∀ m ∈ ms, 0 ≤ m ∧ m ≤ 8) (rest : List Int) : ∀ (pre : List Int) (i a b c d : Int), ms = pre ++ rest → i = pre.length → (-5 ≤ c ∧ c ≤ 5) → (-5 ≤ d ∧ d ≤ 5) →
    Ev (fun k => spec_DriveRoute.l1 k l ms i a b c d) (drive l rest a b c d) := by
  induction rest with
  | nil =>
    intro pre i a b c d hp hi hc hd
    refine evSucc (fun k => by rw [spec_DriveRoute.l1]) ?_
    exact evF (by rw [hp]; simp; omega) (evS _)
  | cons m rest ih =>
    intro pre i a b c d hp hi hc hd
    have hm := hms m (by rw [hp]; simp)
    have hlt : i < (ms.length : Int) := by rw [hp, hi]; simp; omega
    refine evSucc (fun k => by rw [spec_DriveRoute.l1]) ?_
    rw [show rd ms i = m by rw [hp]; exact rd_mid_int pre m rest i hi, wrap_in (x := i + 1) (by omega) (by omega)]
    refine evT hlt (evT (by omega) (evB (move_spec h a b c d m hc hd hm) ?_))
    unfold moveR
    simp only [drive]
    by_cases ho : openB l a b c d m = true
    · rw [if_pos ho, if_pos ho]
      have := open_next ho
      exact evT rfl (ih (pre ++ [m]) (i + 1) _ _ _ _ (by rw [hp]; simp) (by simp; omega) this.1 this.2.1)
    · rw [if_neg ho, if_neg ho]
      exact evF (by simp) (evS _)
theorem drive_impl {l : List ByteArray} (h : isT l = true) (ms : List Int) (hl : ms.length ≤ 1000) (hms : ∀ m ∈ ms, 0 ≤ m ∧ m ≤ 8) (rest : List Int) : ∀ (pre : List Int) (i a b c d : Int), ms = pre ++ rest → i = pre.length → (-5 ≤ c ∧ c ≤ 5) → (-5 ≤ d ∧ d ≤ 5) →
    Ev (fun k => impl_DriveRoute.l0 k l ms (ms.length : Int) i a b c d) (drive l rest a b c d) := by
  induction rest with
  | nil =>
    intro pre i a b c d hp hi hc hd
    refine evSucc (fun k => by rw [impl_DriveRoute.l0]) ?_
    exact evF (by rw [hp]; simp; omega) (evS _)
  | cons m rest ih =>
    intro pre i a b c d hp hi hc hd
    have hm := hms m (by rw [hp]; simp)
    have hlt : i < (ms.length : Int) := by rw [hp, hi]; simp; omega
    refine evSucc (fun k => by rw [impl_DriveRoute.l0]) ?_
    rw [show rd ms i = m by rw [hp]; exact rd_mid_int pre m rest i hi, wrap_in (x := i + 1) (by omega) (by omega)]
    refine evT hlt (evT (by omega) (evT hlt (evB (open_impl h a b c d m hc hd hm) ?_)))
    simp only [drive]
    by_cases ho : openB l a b c d m = true
    · rw [if_pos ho]
      have := open_next ho
      exact evT ho (evG (driven_eq a b c d m) (ih (pre ++ [m]) (i + 1) _ _ _ _ (by rw [hp]; simp) (by simp; omega) this.1 this.2.1))
    · rw [if_neg ho]
      exact evF ho (evS _)
def inMoves (m : Int) : Bool := decide (0 ≤ m ∧ m ≤ 8)
theorem drive1_eq (m : Int) : impl_DriveRoute_1.f m = some (!inMoves m) := by
  unfold impl_DriveRoute_1.f inMoves
  by_cases c : 0 ≤ m ∧ m ≤ 8
  · rw [within_eq c.1 c.2, decide_eq_true c]
    rfl
  · rw [within_ne c, decide_eq_false c]
    rfl
theorem any_drive (ms : List Int) : any_DriveRoute.f ms = some (!ms.all inMoves) := by
  unfold any_DriveRoute.f
  rw [anyF_any _ (fun m => !inMoves m) ms (fun m _ => drive1_eq m)]
  congr 1
  rw [List.not_all_eq_any_not]
/-- What DriveRoute answers. -/
def driveR (l : List ByteArray) (ms : List Int) (z : Int × Int × Int × Int) : Int × Int × Int × Int × Int :=
  if isT l = true then if ms.length ≤ 20 ∧ ms.all inMoves = true then drive l ms z.1 z.2.1 z.2.2.1 z.2.2.2 else (0, 0, 0, 0, 2) else (0, 0, 0, 0, 1)
theorem check_spec (l : List ByteArray) (ms : List Int) (hl : ms.length ≤ 1000) (z : Int × Int × Int × Int) (r : Int × Int × Int × Int × Int) (hz : Ev (fun k => spec_l08First.f k l) z) (rest : List Int) : ∀ (pre : List Int) (i : Int), ms = pre ++ rest → i = pre.length →
    (if rest.all inMoves = true then Ev (fun k => spec_DriveRoute.l1 k l ms 0 z.1 z.2.1 z.2.2.1 z.2.2.2) r else r = (0, 0, 0, 0, 2)) → Ev (fun k => spec_DriveRoute.l0 k l ms i) r := by
  induction rest with
  | nil =>
    intro pre i hp hi h
    refine evSucc (fun k => by rw [spec_DriveRoute.l0]) ?_
    exact evF (by rw [hp]; simp; omega) (evB hz h)
  | cons m rest ih =>
    intro pre i hp hi h
    have hlt : i < (ms.length : Int) := by rw [hp, hi]; simp; omega
    refine evSucc (fun k => by rw [spec_DriveRoute.l0]) ?_
    rw [show rd ms i = m by rw [hp]; exact rd_mid_int pre m rest i hi, wrap_in (x := i + 1) (by omega) (by omega)]
    refine evT hlt (evT (by omega) ?_)
    rw [List.all_cons] at h
    by_cases c : 0 ≤ m ∧ m ≤ 8
    · have e : inMoves m = true := decide_eq_true c
      rw [e, Bool.true_and] at h
      exact evG (in_eq c.1 c.2) (evT rfl (ih (pre ++ [m]) (i + 1) (by rw [hp]; simp) (by simp; omega) h))
    · have e : inMoves m = false := decide_eq_false c
      rw [e, Bool.false_and, if_neg (by simp)] at h
      rw [h]
      exact evG (in_ne c) (evF (by simp) (evS _))
theorem both_drive (l : List ByteArray) (hs : Small l) (ms : List Int) (hl : ms.length ≤ 1048576) : ∃ a b c d e : Int, Ev (fun k => spec_DriveRoute.f k l ms) (a, b, c, d, e) ∧ Ev (fun k => impl_DriveRoute.f k l ms) (a, b, c, d, e) := by
  have key : ∃ z : Int × Int × Int × Int × Int, Ev (fun k => spec_DriveRoute.f k l ms) z ∧ Ev (fun k => impl_DriveRoute.f k l ms) z := by
    unfold spec_DriveRoute.f impl_DriveRoute.f
    by_cases ht : isT l = true
    · obtain ⟨x, y, f1, f2, _⟩ := first_both ht
      by_cases c20 : ms.length ≤ 20
      · by_cases ca : ms.all inMoves = true
        · have hms : ∀ m ∈ ms, 0 ≤ m ∧ m ≤ 8 := fun m hm => of_decide_eq_true (List.all_eq_true.1 ca m hm)
          refine ⟨drive l ms x y 0 0, evB (track_spec l) (evT ht (evF (by omega) (check_spec l ms (by omega) (x, y, 0, 0) _ f1 ms [] 0 rfl rfl ?_))), evT (by omega) (evG (any_drive ms) ?_)⟩
          · rw [if_pos ca]
            exact drive_spec ht ms (by omega) hms ms [] 0 x y 0 0 rfl rfl (by omega) (by omega)
          · refine evSucc (fun k => by rw [impl_DriveRoute.j0]) ?_
            refine evG (track_impl l hs) ?_
            rw [ht, ca]
            exact evB (first_two true true 1 2) (evT rfl (evG f2 (drive_impl ht ms (by omega) hms ms [] 0 x y 0 0 rfl rfl (by omega) (by omega))))
        · refine ⟨(0, 0, 0, 0, 2), evB (track_spec l) (evT ht (evF (by omega) (check_spec l ms (by omega) (x, y, 0, 0) _ f1 ms [] 0 rfl rfl ?_))), evT (by omega) (evG (any_drive ms) ?_)⟩
          · rw [if_neg ca]
          · refine evSucc (fun k => by rw [impl_DriveRoute.j0]) ?_
            refine evG (track_impl l hs) ?_
            have e : ms.all inMoves = false := by simpa using ca
            rw [ht, e]
            exact evB (first_two true false 1 2) (evF (by decide) (evS _))
      · refine ⟨(0, 0, 0, 0, 2), evB (track_spec l) (evT ht (evT (by omega) (evS _))), evF (by omega) ?_⟩
        refine evSucc (fun k => by rw [impl_DriveRoute.j0]) ?_
        refine evG (track_impl l hs) ?_
        rw [ht]
        exact evB (first_two true false 1 2) (evF (by decide) (evS _))
    · have e : isT l = false := by simpa using ht
      have hj : ∀ b : Bool, Ev (fun k => impl_DriveRoute.j0 k l ms b) (0, 0, 0, 0, 1) := fun b => by
        refine evSucc (fun k => by rw [impl_DriveRoute.j0]) ?_
        refine evG (track_impl l hs) ?_
        rw [e]
        exact evB (first_two false b 1 2) (evF (by simp) (evS _))
      refine ⟨(0, 0, 0, 0, 1), evB (track_spec l) (evF ht (evS _)), ?_⟩
      by_cases c20 : ms.length ≤ 20
      · exact evT (by omega) (evG (any_drive ms) (hj _))
      · exact evF (by omega) (hj _)
  obtain ⟨⟨a, b, c, d, e⟩, h1, h2⟩ := key
  exact ⟨a, b, c, d, e, h1, h2⟩
end Go.Proofs.YtikpbmgbemcheaaDoor.B
