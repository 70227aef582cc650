/-
  The program's IsTrack says what the reference's scan says, of few rows of few letters.
-/
import Derived.Test.YtjblefcdihmdbaaDoorTrackSame
import Derived.Laws.Strings
namespace Go.Proofs.YtjblefcdihmdbaaDoor.B
open Go.RowKit Go.Proofs.YtjblefcdihmdbaaDoor.Q Go.Proofs.YtjblefcdihmdbaaDoorW.PrintWords Go.Proofs.YtjblefcdihmdbaaDoorW.PrintLast

theorem scanRow_all (q : List UInt8) : ∀ s g : Int, scanRow q s g = if q.all okB = true then some (s + q.count 83, g + q.count 71) else none := by
  induction q with
  | nil => intro s g; simp [scanRow]
  | cons b q ih =>
    intro s g
    simp only [scanRow, ih, List.all_cons, List.count_cons]
    by_cases c1 : b = 46
    · subst c1
      simp [okB]
    by_cases c2 : b = 35
    · subst c2
      simp [okB]
    by_cases c3 : b = 83
    · subst c3
      cases hq : q.all okB with
      | true => simp [okB]; omega
      | false => simp [okB]
    by_cases c4 : b = 71
    · subst c4
      cases hq : q.all okB with
      | true => simp [okB]; omega
      | false => simp [okB]
    · simp [okB, c1, c2, c3, c4]
def rowOk (n : Nat) (r : ByteArray) : Bool := r.size == n && (bl r).all okB
def cnt (c : UInt8) (l : List ByteArray) : Nat := (l.map bl).flatten.count c
theorem cnt_cons (c : UInt8) (r : ByteArray) (l : List ByteArray) : cnt c (r :: l) = (bl r).count c + cnt c l := by simp [cnt]
theorem scan_all (n : Nat) (l : List ByteArray) : ∀ s g : Int, scan n l s g = (l.all (rowOk n) && (decide (s + cnt 83 l = 1) && decide (g + cnt 71 l > 0))) := by
  induction l with
  | nil => intro s g; simp [scan, cnt]
  | cons r l ih =>
    intro s g
    simp only [scan, List.all_cons, cnt_cons]
    by_cases c : r.size = n
    · rw [if_pos c, scanRow_all]
      cases hq : (bl r).all okB with
      | true =>
        have hk : rowOk n r = true := by simp [rowOk, c, hq]
        simp only [if_true, ih, hk, Bool.true_and]
        congr 2
        · congr 1
          exact propext ⟨fun h => by omega, fun h => by omega⟩
        · congr 1
          exact propext ⟨fun h => by omega, fun h => by omega⟩
      | false =>
        have hk : rowOk n r = false := by simp [rowOk, hq]
        simp [hk]
    · have hk : rowOk n r = false := by simp [rowOk, c]
      rw [if_neg c]
      simp [hk]
theorem anyF_any {α : Type} (p : α → Option Bool) (q : α → Bool) (l : List α) (h : ∀ x ∈ l, p x = some (q x)) : anyF p l = some (l.any q) := by
  induction l with
  | nil => rfl
  | cons x l ih =>
    simp only [anyF, h x (by simp), Option.bind_some, List.any_cons, ih (fun y hy => h y (by simp [hy]))]
    cases q x <;> simp
theorem dropWhile_nil_iff {α : Type} (p : α → Bool) (l : List α) : (l.dropWhile p).isEmpty = l.all p := by
  induction l with
  | nil => rfl
  | cons x l ih =>
    simp only [List.dropWhile_cons, List.all_cons]
    cases p x with
    | true => simpa using ih
    | false => simp
theorem all_reverse' {α : Type} (p : α → Bool) (l : List α) : l.reverse.all p = l.all p := by simp
theorem dropWhile_all_imp {α : Type} (p : α → Bool) (l : List α) : (l.dropWhile p).all p = l.all p := by
  induction l with
  | nil => rfl
  | cons x l ih =>
    simp only [List.dropWhile_cons, List.all_cons]
    cases hx : p x with
    | true => simpa using ih
    | false => simp [hx]
theorem trimS_nil_iff (l cs : List UInt8) : (Lib.trimS l cs).isEmpty = l.all (cs.contains ·) := by
  unfold Lib.trimS Lib.trimLeftS Lib.trimRightS
  rw [dropWhile_nil_iff, all_reverse', dropWhile_all_imp, all_reverse']
theorem okB_set (b : UInt8) : [46, 35, 83, 71].contains b = okB b := by
  simp only [List.contains, List.elem, okB]
  by_cases c1 : b = 46
  · subst c1; rfl
  by_cases c2 : b = 35
  · subst c2; rfl
  by_cases c3 : b = 83
  · subst c3; rfl
  by_cases c4 : b = 71
  · subst c4; rfl
  have e1 : (b == 46) = false := by simpa using c1
  have e2 : (b == 35) = false := by simpa using c2
  have e3 : (b == 83) = false := by simpa using c3
  have e4 : (b == 71) = false := by simpa using c4
  simp [e1, e2, e3, e4]
theorem BA_list (a : List UInt8) : (BA a).data.toList = a := by simp [BA]
theorem wrong_eq (l : List ByteArray) (hl : 0 < l.length) (x : ByteArray) (hx : x.size ≤ 1048576) : wrongP l x = some (!rowOk (n0 l) x) := by
  unfold wrongP rowOk
  rw [if_pos hl]
  by_cases c : x.size = n0 l
  · rw [if_pos (by show (x.size : Int) = (n0 l : Int); omega)]
    unfold strings_Trim.f
    rw [if_pos ⟨by omega, by decide, by decide⟩]
    simp only [Option.bind_some]
    have e : (BA (Lib.trimS x.data.toList (⟨#[46, 35, 83, 71]⟩ : ByteArray).data.toList)).toList.isEmpty = (bl x).all okB := by
      rw [ByteArray.toList_eq, BA_list]
      show (Lib.trimS (bl x) [46, 35, 83, 71]).isEmpty = _
      rw [trimS_nil_iff]
      congr 1
      funext b
      exact okB_set b
    rw [e]
    simp [c]
  · rw [if_neg (by show ¬ (x.size : Int) = (n0 l : Int); omega)]
    simp [c]
theorem join_nil_sep (xs : List (List UInt8)) : Lib.join xs [] = xs.flatten := by
  cases xs with
  | nil => rfl
  | cons x r =>
    rw [Lib.join_cons]
    simp [Lib.joinTail]
theorem flatten_le (l : List ByteArray) (h : ∀ s ∈ l, s.size ≤ 1048576) : (l.map bl).flatten.length ≤ l.length * 1048576 := by
  induction l with
  | nil => simp
  | cons x l ih =>
    have := ih (fun s hs => h s (by simp [hs]))
    have h2 := h x (by simp)
    simp only [List.map_cons, List.flatten_cons, List.length_append, List.length_cons, bl_len]
    omega
theorem track_impl (l : List ByteArray) (hs : Small l) : impl_IsTrack.f l = some (isT l) := by
  unfold impl_IsTrack.f isT
  change (if 1 ≤ l.length ∧ l.length ≤ 16 ∧ 1 ≤ n0 l ∧ n0 l ≤ 16 then _ else _) = _
  by_cases c : 1 ≤ l.length ∧ l.length ≤ 16 ∧ 1 ≤ n0 l ∧ n0 l ≤ 16
  · rw [if_pos c, decide_eq_true c, scan_all, Bool.true_and]
    have hf := flatten_le l hs.2
    have e0 : (⟨#[]⟩ : ByteArray).data.toList = [] := rfl
    have hj : strings_Join.f l ⟨#[]⟩ = some (BA (l.map bl).flatten) := by
      unfold strings_Join.f
      rw [e0, join_nil_sep]
      exact if_pos ⟨by omega, by show (l.map bl).flatten.length ≤ _; omega⟩
    rw [hj]
    simp only [Option.bind_some]
    rw [anyF_any _ (fun x => !rowOk (n0 l) x) l (fun x hx => wrong_eq l (by omega) x (hs.2 x hx))]
    simp only [Option.bind_some]
    have ha : (l.any fun x => !rowOk (n0 l) x) = !(l.all (rowOk (n0 l))) := by
      rw [List.not_all_eq_any_not]
    rw [ha]
    cases hq : l.all (rowOk (n0 l)) with
    | false => simp
    | true =>
      have hn : strings_Count.f (BA (l.map bl).flatten) ⟨#[83]⟩ = some (cnt 83 l : Int) := by
        show some (Lib.countByte (BA (l.map bl).flatten).data.toList 83 : Int) = _
        rw [BA_list]
        rfl
      have hh : strings_Contains.f (BA (l.map bl).flatten) ⟨#[71]⟩ = some (decide ((0 : Int) + cnt 71 l > 0)) := by
        show some (decide (0 ≤ Lib.indexByte (BA (l.map bl).flatten).data.toList 71)) = _
        rw [BA_list, ← Lib.contains_iff_indexByte]
        congr 1
        unfold cnt
        rw [Bool.eq_iff_iff]
        simp [List.count_pos_iff]
      rw [hn, hh]
      simp only [Bool.not_true, Option.bind_some, Bool.true_and]
      by_cases c1 : cnt 83 l = 1
      · simp [c1]
      · have : ¬ (cnt 83 l : Int) = 1 := by omega
        simp [this]
  · rw [if_neg c, decide_eq_false c, Bool.false_and]
end Go.Proofs.YtjblefcdihmdbaaDoor.B
