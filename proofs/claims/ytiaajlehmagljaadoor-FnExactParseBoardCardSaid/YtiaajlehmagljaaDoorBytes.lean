/-
  Plain: texts as lists of letters; their parts between a letter, as the reference cuts them and as strings.Split does. Texts of at most 1,000,000,000 letters.
-/
import Derived.Test.YtiaajlehmagljaaDoorSplitOne
import Derived.Test.YtiaajlehmagljaaDoorEvBase
import Derived.Test.YtiaajlehmagljaaDoorQ3
namespace Go.Proofs.YtiaajlehmagljaaDoor.B
open Go.RowKit Go.Proofs.YtiaajlehmagljaaDoor.Q Go.Proofs.YtiaajlehmagljaaDoorW.PrintWords Go.Proofs.YtiaajlehmagljaaDoorW.PrintLast Go.Proofs.YtiaajlehmagljaaDoorW.PrintMore

theorem ev_uniq {α : Type} {f : Nat → Option α} {a b : α} (h1 : Ev f a) (h2 : Ev f b) : a = b := by
  obtain ⟨k1, h1⟩ := h1
  obtain ⟨k2, h2⟩ := h2
  have e1 := h1 (max k1 k2) (by omega)
  have e2 := h2 (max k1 k2) (by omega)
  rw [e1] at e2
  exact Option.some.inj e2
theorem BA_data (l : List UInt8) : (BA l).data.toList = l := by simp [BA]
theorem BA_size (l : List UInt8) : (BA l).size = l.length := by simp [BA, ByteArray.size]
theorem BA_toList (l : List UInt8) : (BA l).toList = l := by rw [Lib.toList_data, BA_data]
theorem BA_eta (s : ByteArray) : BA s.data.toList = s := by
  obtain ⟨d⟩ := s
  simp [BA]
theorem BA_inj {a b : List UInt8} (h : BA a = BA b) : a = b := by
  have := congrArg (fun s : ByteArray => s.data.toList) h
  simpa [BA_data] using this
theorem ba_ext {a b : ByteArray} (h : a.data.toList = b.data.toList) : a = b := by rw [← BA_eta a, ← BA_eta b, h]
theorem BA_append (a b : List UInt8) : BA a ++ BA b = BA (a ++ b) := by
  apply ba_ext
  rw [ByteArray.data_append]
  simp [BA]
theorem BA_push (a : List UInt8) (c : UInt8) : BA a ++ (⟨#[c]⟩ : ByteArray) = BA (a ++ [c]) := BA_append a [c]
theorem BA_extract (l : List UInt8) (i j : Nat) : (BA l).extract i j = BA ((l.drop i).take (j - i)) := by
  apply ba_ext
  rw [ByteArray.data_extract, BA_data]
  simp [BA, List.take_drop]
theorem BA_tail (l : List UInt8) (i : Nat) : (BA l).extract i l.length = BA (l.drop i) := by
  rw [BA_extract, List.take_of_length_le (by simp)]
theorem bt_BA (l : List UInt8) (i : Int) (h0 : 0 ≤ i) (h1 : i < l.length) : bt (BA l) i = ((l[i.toNat]'(by omega)).toNat : Int) := by
  unfold bt
  have h : i.toNat < (BA l).size := by rw [BA_size]; omega
  rw [dif_pos h]
  simp [BA]
  rfl
/-- The parts between letters c; cur stands ahead. -/
def splitQ (c : UInt8) : List UInt8 → List UInt8 → List (List UInt8)
  | cur, [] => [cur]
  | cur, b :: r => if b = c then cur :: splitQ c [] r else splitQ c (cur ++ [b]) r
theorem splitQ_no (c : UInt8) : ∀ (l cur : List UInt8), c ∉ l → splitQ c cur l = [cur ++ l]
  | [], cur, _ => by simp [splitQ]
  | b :: r, cur, h => by
    have hb : b ≠ c := fun e => h (by simp [e])
    rw [splitQ, if_neg hb, splitQ_no c r _ (fun hr => h (by simp [hr]))]
    simp
theorem splitQ_hit (c : UInt8) : ∀ (l cur r : List UInt8), c ∉ l → splitQ c cur (l ++ c :: r) = (cur ++ l) :: splitQ c [] r
  | [], cur, r, _ => by simp [splitQ]
  | b :: l, cur, r, h => by
    have hb : b ≠ c := fun e => h (by simp [e])
    rw [List.cons_append, splitQ, if_neg hb, splitQ_hit c l _ r (fun hr => h (by simp [hr]))]
    simp
theorem splitQ_len (c : UInt8) : ∀ (l cur : List UInt8), (splitQ c cur l).length = l.count c + 1
  | [], cur => by simp [splitQ]
  | b :: r, cur => by
    rw [splitQ]
    split
    · rename_i e
      subst e
      rw [List.length_cons, splitQ_len, List.count_cons_self]
    · rename_i e
      rw [splitQ_len, List.count_cons_of_ne (by simpa using e)]
theorem splitQ_sizes (c : UInt8) (N : Nat) : ∀ (l cur : List UInt8), cur.length + l.length ≤ N → ∀ p ∈ splitQ c cur l, p.length ≤ N
  | [], cur, h, p, hp => by
    obtain rfl := List.mem_singleton.1 (show p ∈ [cur] from hp)
    simpa using h
  | b :: r, cur, h, p, hp => by
    simp only [List.length_cons] at h
    rw [splitQ] at hp
    split at hp
    · rcases List.mem_cons.1 hp with rfl | hp
      · omega
      · exact splitQ_sizes c N r [] (by simp; omega) p hp
    · exact splitQ_sizes c N r _ (by simp; omega) p hp
theorem splitQ_no_mem (c : UInt8) : ∀ (l cur : List UInt8), c ∉ cur → ∀ p ∈ splitQ c cur l, c ∉ p
  | [], cur, h, p, hp => by
    obtain rfl := List.mem_singleton.1 (show p ∈ [cur] from hp)
    exact h
  | b :: r, cur, h, p, hp => by
    rw [splitQ] at hp
    split at hp
    · rcases List.mem_cons.1 hp with rfl | hp
      · exact h
      · exact splitQ_no_mem c r [] (by simp) p hp
    · rename_i e
      exact splitQ_no_mem c r _ (by
        intro hm
        rcases List.mem_append.1 hm with hm | hm
        · exact h hm
        · exact e (List.mem_singleton.1 hm).symm) p hp
theorem splitQ_ne (c : UInt8) (l cur : List UInt8) : splitQ c cur l ≠ [] := by
  intro h
  have := splitQ_len c l cur
  rw [h] at this
  simp at this
/-- strings.Split's parts are these. -/
theorem parts_eq (c : UInt8) (l : List UInt8) : partsS c (BA l) = (splitQ c [] l).map BA := by
  have key : ∀ (n : Nat) (l : List UInt8), l.count c = n → Lib.splitB ⟨#[c]⟩ 0 n (BA l) = (splitQ c [] l).map BA := by
    intro n
    induction n with
    | zero =>
      intro l h
      have hn : c ∉ l := List.count_eq_zero.1 h
      rw [Lib.splitB_zero, splitQ_no c l [] hn]
      simp
    | succ n ih =>
      intro l h
      have hm : c ∈ l := List.count_pos_iff.1 (by omega)
      obtain ⟨xs0, bs, rfl, hn⟩ := List.eq_append_cons_of_mem hm
      have hi : Lib.indexB (BA (xs0 ++ c :: bs)) ⟨#[c]⟩ = xs0.length := by
        show Lib.index (BA (xs0 ++ c :: bs)).data.toList [c] = xs0.length
        rw [BA_data, Lib.index_one]
        have : ∀ xs0 : List UInt8, c ∉ xs0 → Lib.indexByte (xs0 ++ c :: bs) c = xs0.length := by
          intro xs0
          induction xs0 with
          | nil => intro _; simp [Lib.indexByte]
          | cons x xs ihx =>
            intro hx
            have h1 : ¬ x = c := fun e => hx (by simp [e])
            have h2 := ihx (fun hh => hx (by simp [hh]))
            rw [List.cons_append, Lib.indexByte, if_neg (by simpa using h1), h2, if_neg (by simp)]
            simp
        exact this xs0 hn
      rw [Lib.splitB_hit _ _ _ _ _ hi, splitQ_hit c xs0 [] bs hn, List.map_cons, BA_extract]
      have e1 : (BA (xs0 ++ c :: bs)).extract (xs0.length + (⟨#[c]⟩ : ByteArray).size) (BA (xs0 ++ c :: bs)).size = BA bs := by
        rw [BA_size, BA_tail]
        congr 1
        show (xs0 ++ c :: bs).drop (xs0.length + 1) = bs
        simp
      rw [e1, ih bs (by simpa [List.count_append, List.count_eq_zero.2 hn] using h)]
      simp
  unfold partsS
  have hc : Lib.countB (BA l) ⟨#[c]⟩ = l.count c := by
    show Lib.count (BA l).data.toList [c] = _
    rw [BA_data, Lib.count_one]
  rw [hc]
  exact key _ l rfl
/-- And the reference's. -/
theorem split_l (c : UInt8) (l : List UInt8) (hl : l.length ≤ 1000000000) : ∀ (rest : List UInt8) (i at_ : Nat) (out : List ByteArray), l.drop i = rest → at_ ≤ i → i ≤ l.length → out.length ≤ i →
    Ev (fun k => spec_l01Split.l0 k (BA l) (c.toNat : Int) out at_ i) (out ++ (splitQ c ((l.drop at_).take (i - at_)) rest).map BA)
  | [], i, at_, out, hd, h1, h2, h3 => by
    have hi : i = l.length := by
      have := congrArg List.length hd
      simp at this
      omega
    refine evSucc (fun k => by rw [spec_l01Split.l0]) ?_
    rw [BA_size]
    refine evF (by omega) (evT (by omega) (evT (by omega) (evT (by omega) (evE ?_ (evS _)))))
    rw [splitQ, show ((at_ : Nat) : Int).toNat = at_ by omega, BA_extract, hi]
    rfl
  | b :: r, i, at_, out, hd, h1, h2, h3 => by
    have hi : i < l.length := by
      have := congrArg List.length hd
      simp at this
      omega
    have hb : l[i] = b := by
      have := List.drop_eq_getElem_cons hi
      rw [hd] at this
      exact (List.cons.inj this).1.symm
    have hr : l.drop (i + 1) = r := by
      have := List.drop_eq_getElem_cons hi
      rw [hd] at this
      exact (List.cons.inj this).2.symm
    have hbt : bt (BA l) (i : Int) = (b.toNat : Int) := by
      rw [bt_BA l i (by omega) (by omega), ← hb]
      simp
    have hw : wrap64 ((i : Int) + 1) = ((i + 1 : Nat) : Int) := by rw [wrap_in (by omega) (by omega)]; omega
    refine evSucc (fun k => by rw [spec_l01Split.l0]) ?_
    rw [BA_size, hbt, hw]
    refine evT (by omega) (evT (by omega) ?_)
    by_cases e : b = c
    · subst e
      refine evT rfl (evT (by omega) (evT (by omega) (evT (by omega) (evT (by omega) ?_))))
      rw [show ((at_ : Nat) : Int).toNat = at_ by omega, show ((i : Nat) : Int).toNat = i by omega, BA_extract]
      have := split_l b l hl r (i + 1) (i + 1) (out ++ [BA ((l.drop at_).take (i - at_))]) hr (Nat.le_refl _) (by omega) (by simp; omega)
      refine evE ?_ this
      rw [splitQ, if_pos rfl]
      simp
    · refine evF (fun h => e (UInt8.toNat_inj.1 (by omega))) ?_
      have := split_l c l hl r (i + 1) at_ out hr (by omega) (by omega) (by omega)
      refine evE ?_ this
      rw [splitQ, if_neg e]
      congr 2
      rw [show i + 1 - at_ = (i - at_) + 1 by omega, List.take_add_one]
      congr 1
      rw [List.getElem?_drop, show at_ + (i - at_) = i by omega, List.getElem?_eq_getElem hi, hb]
      rfl
theorem split_spec (c : UInt8) (l : List UInt8) (hl : l.length ≤ 1000000000) : Ev (fun k => spec_l01Split.f k (BA l) (c.toNat : Int)) ((splitQ c [] l).map BA) := by
  unfold spec_l01Split.f
  have := split_l c l hl l 0 0 [] rfl (Nat.le_refl _) (by omega) (by simp)
  simpa using this
end Go.Proofs.YtiaajlehmagljaaDoor.B
