/-
  The texts of boards: program and reference write the same text. Boards alone, as the facts ask.
-/
import Derived.Test.YtiaajlehmagljaaDoorBoardSame
import Derived.Test.YtiaajlehmagljaaDoorBytes
import Derived.Test.YtiaajlehmagljaaDoorQ4
import Derived.Test.YtiaajlehmagljaaDoorQ2
import Derived.Lib.Join
namespace Go.Proofs.YtiaajlehmagljaaDoor.B
open Go.RowKit Go.Proofs.YtiaajlehmagljaaDoor.Q Go.Proofs.YtiaajlehmagljaaDoorW.PrintWords Go.Proofs.YtiaajlehmagljaaDoorW.PrintLast Go.Proofs.YtiaajlehmagljaaDoorW.PrintMore

theorem BA_cat (a b : List UInt8) : BA a ++ BA b = BA (a ++ b) := BA_append a b
theorem BA_list (a : List UInt8) : (BA a).data.toList = a := BA_data a
/-- The text of a number from 0 to 16. -/
def dl (n : Int) : List UInt8 := ((impl_decimal.f n).getD ByteArray.empty).data.toList
theorem dec_all : ∀ n : Fin 17, impl_decimal.f (n.val : Int) = some (BA (dl (n.val : Int))) ∧ spec_l01Dec.f 5 (n.val : Int) = some (BA (dl (n.val : Int))) ∧ (dl (n.val : Int)).length ≤ 2 := by decide +kernel
theorem dec_impl (n : Int) (h0 : 0 ≤ n) (h1 : n ≤ 16) : impl_decimal.f n = some (BA (dl n)) := by
  have := (dec_all ⟨n.toNat, by omega⟩).1
  rwa [show ((n.toNat : Nat) : Int) = n by omega] at this
theorem dec_len (n : Int) (h0 : 0 ≤ n) (h1 : n ≤ 16) : (dl n).length ≤ 2 := by
  have := (dec_all ⟨n.toNat, by omega⟩).2.2
  rwa [show ((n.toNat : Nat) : Int) = n by omega] at this
theorem dec_spec (n : Int) (h0 : 0 ≤ n) (h1 : n ≤ 16) : Ev (fun k => spec_l01Dec.f k n) (BA (dl n)) := by
  have := (dec_all ⟨n.toNat, by omega⟩).2.1
  rw [show ((n.toNat : Nat) : Int) = n by omega] at this
  exact Ev.of (fun k => spec_l01Dec.mono n k) this
/-- The nodes of a set. -/
def nd (s x : Int) : Bool := Go.bits .and .i64 (shr .i64 s x) 1 == 1
def nds (s : Int) : List Int := (seg 0 16).filter (nd s)
theorem nds_len (s : Int) : (nds s).length ≤ 16 := filter_length_le_seg _ _ _
theorem nds_in (s x : Int) (h : x ∈ nds s) : 0 ≤ x ∧ x < 16 := by
  have := (mem_seg _ _ _).1 (List.mem_filter.1 h).1
  omega
theorem nodes_impl (s : Int) : impl_nodesOf.f s = some (nds s) := by
  unfold impl_nodesOf.f choose_nodesOf.f
  rw [if_pos (by decide), show (16 : Int).toNat = 16 from rfl, chooseP_total (nodeP s) (nd s) 16 0 (fun x h0 h1 => by unfold nodeP nd; rw [if_pos h0])]
  rfl
theorem nodes_spec_l (s : Int) (d : Nat) : ∀ (i : Int) (acc : List Int), 0 ≤ i → i + d = 16 → acc.length ≤ i → Ev (fun k => spec_l07Nodes.l0 k s acc i) (acc ++ (seg i d).filter (nd s)) := by
  induction d with
  | zero =>
    intro i acc h0 hi ha
    refine evSucc (fun k => by rw [spec_l07Nodes.l0]) ?_
    exact evF (by omega) (evE (by simp [seg]) (evS _))
  | succ d ih =>
    intro i acc h0 hi ha
    refine evSucc (fun k => by rw [spec_l07Nodes.l0, wrap_in (x := i + 1) (by omega) (by omega), u64_in i h0 (by omega)]) ?_
    refine evT (by omega) (evT h0 ?_)
    simp only [seg, List.filter_cons]
    by_cases c : Go.bits .and .i64 (shr .i64 s i) 1 = 1
    · have e : nd s i = true := by unfold nd; rw [c]; rfl
      rw [e]
      refine evT c (evT (by omega) (evE ?_ (ih (i + 1) (acc ++ [i]) (by omega) (by omega) (by simp; omega))))
      simp
    · have e : nd s i = false := by unfold nd; simpa using c
      rw [e]
      exact evF c (evE (by simp) (ih (i + 1) acc (by omega) (by omega) (by omega)))
theorem nodes_spec (s : Int) : Ev (fun k => spec_l07Nodes.f k s) (nds s) := by
  unfold spec_l07Nodes.f
  have := nodes_spec_l s 16 0 [] (by omega) (by omega) (by simp)
  simpa [nds] using this
theorem tail_len (m : Nat) (sep : List UInt8) (r : List (List UInt8)) (h : ∀ x ∈ r, x.length ≤ m) : (Lib.joinTail sep r).length ≤ r.length * (sep.length + m) := by
  induction r with
  | nil => simp [Lib.joinTail]
  | cons x r ih =>
    have h1 := ih (fun y hy => h y (List.mem_cons_of_mem _ hy))
    have h2 := h x List.mem_cons_self
    have e : Lib.joinTail sep (x :: r) = (sep ++ x) ++ Lib.joinTail sep r := by simp [Lib.joinTail]
    rw [e, List.length_append, List.length_append, List.length_cons, Nat.add_mul]
    omega
theorem tail_cons (sep x : List UInt8) (r : List (List UInt8)) : Lib.joinTail sep (x :: r) = (sep ++ x) ++ Lib.joinTail sep r := by simp [Lib.joinTail]
theorem join_len (m : Nat) (sep : List UInt8) (r : List (List UInt8)) (h : ∀ x ∈ r, x.length ≤ m) : (Lib.join r sep).length ≤ r.length * (sep.length + m) := by
  cases r with
  | nil => simp [Lib.join_nil]
  | cons x r =>
    have h1 := tail_len m sep r (fun y hy => h y (List.mem_cons_of_mem _ hy))
    have h2 := h x List.mem_cons_self
    rw [Lib.join_cons, List.length_append, List.length_cons, Nat.add_mul]
    omega
/-- What stands of a list's parts from place k on. -/
def rest (sep : List UInt8) (l : List (List UInt8)) (k : Nat) : List UInt8 := if k = 0 then Lib.join l sep else Lib.joinTail sep (l.drop k)
theorem rest_end (sep : List UInt8) (l : List (List UInt8)) (k : Nat) (h : k = l.length) : rest sep l k = [] := by
  unfold rest
  split
  · rename_i e
    obtain rfl : l = [] := List.length_eq_zero_iff.1 (by omega)
    rfl
  · rw [List.drop_eq_nil_of_le (by omega)]
    rfl
theorem rest_step (sep : List UInt8) (l : List (List UInt8)) (k : Nat) (h : k < l.length) : rest sep l k = (if k = 0 then l[k] else sep ++ l[k]) ++ rest sep l (k + 1) := by
  unfold rest
  rw [if_neg (by omega : ¬ k + 1 = 0)]
  split
  · rename_i e
    subst e
    cases l with
    | nil => simp at h
    | cons x r => rw [Lib.join_cons]; rfl
  · rw [List.drop_eq_getElem_cons h, tail_cons]
theorem rd_at (l : List Int) (k : Int) (h0 : 0 ≤ k) (h1 : k < l.length) : rd l k = l[k.toNat]'(by omega) := by
  unfold rd
  rw [List.getD_eq_getElem?_getD, List.getElem?_eq_getElem (by omega)]
  rfl
/-- The text of a line. -/
def lineT (s : Int) : List UInt8 := Lib.join ((nds s).map dl) [46]
theorem lineT_len (s : Int) : (lineT s).length ≤ 48 := by
  have h := join_len 2 [46] ((nds s).map dl) (fun x hx => by
    obtain ⟨n, hn, rfl⟩ := List.mem_map.1 hx
    have := nds_in s n hn
    exact dec_len n this.1 (by omega))
  have h2 := nds_len s
  unfold lineT
  rw [List.length_map] at h
  simp only [List.length_singleton] at h
  omega
def boardT (L : List Int) : List UInt8 := Lib.join (L.map lineT) [44]
theorem boardT_len (L : List Int) (h : L.length ≤ 100) : (boardT L).length ≤ 4900 := by
  have h1 := join_len 48 [44] (L.map lineT) (fun x hx => by
    obtain ⟨n, _, rfl⟩ := List.mem_map.1 hx
    exact lineT_len n)
  unfold boardT
  rw [List.length_map] at h1
  simp only [List.length_singleton] at h1
  omega
theorem join_impl (xs : List (List UInt8)) (sep : List UInt8) (h : xs.length ≤ 1000000) (h2 : (Lib.join xs sep).length ≤ 1000000) : strings_Join.f (xs.map BA) (BA sep) = some (BA (Lib.join xs sep)) := by
  have e : (xs.map BA).map (·.data.toList) = xs := by
    rw [List.map_map]
    conv => rhs; rw [← List.map_id xs]
    exact List.map_congr_left (fun x _ => BA_list x)
  unfold strings_Join.f
  rw [e, BA_list, if_pos ⟨by rw [List.length_map]; omega, by omega⟩]
theorem joined_l (N : List Int) (hN : N.length ≤ 16) (hin : ∀ x ∈ N, 0 ≤ x ∧ x < 16) (hlen : (Lib.join (N.map dl) [46]).length ≤ 1000000) (d : Nat) : ∀ i : Int, 0 ≤ i → i + d = N.length → Ev (fun k => impl_joined.l0 k (BA [46]) (((N.take i.toNat).map dl).map BA) N (N.length : Int) i) (BA (Lib.join (N.map dl) [46])) := by
  induction d with
  | zero =>
    intro i h0 hi
    refine evSucc (fun k => by rw [impl_joined.l0]) ?_
    rw [List.take_of_length_le (by omega)]
    exact evF (by omega) (evG (join_impl (N.map dl) [46] (by rw [List.length_map]; omega) hlen) (evS _))
  | succ d ih =>
    intro i h0 hi
    have e1 := ih (i + 1) (by omega) (by omega)
    refine evSucc (fun k => by rw [impl_joined.l0, wrap_in (x := i + 1) (by omega) (by omega)]) ?_
    have hx := rd_at N i h0 (by omega)
    have hm : rd N i ∈ N := by rw [hx]; exact List.getElem_mem _
    have hb := hin _ hm
    refine evT (by omega) (evT h0 (evT (by omega) (evG (dec_impl _ hb.1 (by omega)) (evT ?_ ?_))))
    · simp only [List.length_map, List.length_take]
      omega
    · have e2 : ((N.take (i + 1).toNat).map dl).map BA = ((N.take i.toNat).map dl).map BA ++ [BA (dl (rd N i))] := by
        rw [show (i + 1).toNat = i.toNat + 1 by omega, List.take_add_one, List.getElem?_eq_getElem (by omega), hx]
        simp only [Option.toList, List.map_append, List.map_cons, List.map_nil]
      rw [e2] at e1
      exact e1
theorem joined_impl (s : Int) : Ev (fun k => impl_joined.f k (nds s) (BA [46])) (BA (lineT s)) := by
  unfold impl_joined.f
  have h := lineT_len s
  have := joined_l (nds s) (nds_len s) (nds_in s) (by unfold lineT at h; omega) (nds s).length 0 (by omega) (by omega)
  simpa [lineT] using this
theorem text_impl_l (n : Int) (L : List Int) (hn : 0 ≤ n ∧ n ≤ 16) (hL : L.length ≤ 100) (d : Nat) : ∀ i : Int, 0 ≤ i → i + d = L.length →
    Ev (fun k => impl_BoardText.l0 k (((L.take i.toNat).map lineT).map BA) L (L.length : Int) i n L) (BA ((dl n ++ [58]) ++ boardT L), 0) := by
  have hb := boardT_len L hL
  have hd := dec_len n hn.1 hn.2
  induction d with
  | zero =>
    intro i h0 hi
    refine evSucc (fun k => by rw [impl_BoardText.l0]) ?_
    rw [List.take_of_length_le (by omega)]
    refine evF (by omega) (evG (dec_impl n hn.1 hn.2) (evT (by rw [BA_size]; omega) (evG (join_impl (L.map lineT) [44] (by rw [List.length_map]; omega) (by unfold boardT at hb; omega)) ?_)))
    have e : BA (dl n) ++ (⟨#[58]⟩ : ByteArray) = BA (dl n ++ [58]) := BA_cat _ [58]
    rw [e]
    refine evT ?_ (evE ?_ (evS _))
    · rw [BA_size, BA_size, List.length_append, List.length_singleton]
      unfold boardT at hb
      omega
    · rw [BA_cat]
      rfl
  | succ d ih =>
    intro i h0 hi
    have e1 := ih (i + 1) (by omega) (by omega)
    refine evSucc (fun k => by rw [impl_BoardText.l0, wrap_in (x := i + 1) (by omega) (by omega)]) ?_
    refine evT (by omega) (evT h0 (evT (by omega) (evG (nodes_impl _) (evB (joined_impl _) (evT ?_ ?_)))))
    · simp only [List.length_map, List.length_take]
      omega
    · have e2 : ((L.take (i + 1).toNat).map lineT).map BA = ((L.take i.toNat).map lineT).map BA ++ [BA (lineT (rd L i))] := by
        rw [show (i + 1).toNat = i.toNat + 1 by omega, List.take_add_one, List.getElem?_eq_getElem (by omega), rd_at L i h0 (by omega)]
        simp only [Option.toList, List.map_append, List.map_cons, List.map_nil]
      rw [e2] at e1
      exact e1
theorem line_spec (n : Int) (L : List Int) (i : Int) (N : List Int) (hN : N.length ≤ 16) (hin : ∀ x ∈ N, 0 ≤ x ∧ x < 16) (r : ByteArray) (d : Nat) : ∀ (k : Int) (a : List UInt8), 0 ≤ k → k + d = N.length → a.length + 3 * d ≤ 1000000 →
    Ev (fun q => spec_l07Text.l0 q (BA (a ++ rest [46] (N.map dl) k.toNat)) (wrap64 (i + 1)) n L) r → Ev (fun q => spec_l07Text.l1 q (BA a) i N k n L) r := by
  induction d with
  | zero =>
    intro k a h0 hk ha hr
    rw [rest_end _ _ _ (by rw [List.length_map]; omega), List.append_nil] at hr
    refine evSucc (fun q => by rw [spec_l07Text.l1]) ?_
    exact evF (by omega) hr
  | succ d ih =>
    intro k a h0 hk ha hr
    have hx := rd_at N k h0 (by omega)
    have hm : rd N k ∈ N := by rw [hx]; exact List.getElem_mem _
    have hb := hin _ hm
    have hl := dec_len (rd N k) hb.1 (by omega)
    have e0 : (N.map dl)[k.toNat]'(by rw [List.length_map]; omega) = dl (rd N k) := by rw [List.getElem_map, hx]
    rw [rest_step _ _ _ (by rw [List.length_map]; omega), e0] at hr
    refine evSucc (fun q => by rw [spec_l07Text.l1, wrap_in (x := k + 1) (by omega) (by omega)]) ?_
    refine evT (by omega) ?_
    by_cases c : k > 0
    · rw [if_neg (by omega)] at hr
      have e1 : BA a ++ (⟨#[46]⟩ : ByteArray) = BA (a ++ [46]) := BA_cat _ [46]
      refine evT c (evT (by rw [BA_size]; omega) (evT h0 (evB (dec_spec _ hb.1 (by omega)) ?_)))
      rw [e1]
      refine evT (by rw [BA_size, BA_size, List.length_append, List.length_singleton]; omega) ?_
      rw [BA_cat]
      refine ih (k + 1) _ (by omega) (by omega) (by simp; omega) ?_
      rw [show (k + 1).toNat = k.toNat + 1 by omega]
      simpa using hr
    · rw [if_pos (by omega)] at hr
      refine evF c (evT h0 (evB (dec_spec _ hb.1 (by omega)) ?_))
      refine evT (by rw [BA_size, BA_size]; omega) ?_
      rw [BA_cat]
      refine ih (k + 1) _ (by omega) (by omega) (by simp; omega) ?_
      rw [show (k + 1).toNat = k.toNat + 1 by omega]
      simpa using hr
theorem text_spec_l (n : Int) (L : List Int) (hL : L.length ≤ 100) (d : Nat) : ∀ (i : Int) (a : List UInt8), 0 ≤ i → i + d = L.length → a.length ≤ 10 + 49 * i.toNat →
    Ev (fun q => spec_l07Text.l0 q (BA a) i n L) (BA (a ++ rest [44] (L.map lineT) i.toNat)) := by
  induction d with
  | zero =>
    intro i a h0 hi ha
    rw [rest_end _ _ _ (by rw [List.length_map]; omega), List.append_nil]
    refine evSucc (fun q => by rw [spec_l07Text.l0]) ?_
    exact evF (by omega) (evS _)
  | succ d ih =>
    intro i a h0 hi ha
    have hx := rd_at L i h0 (by omega)
    have e0 : (L.map lineT)[i.toNat]'(by rw [List.length_map]; omega) = lineT (rd L i) := by rw [List.getElem_map, hx]
    have hll := lineT_len (rd L i)
    rw [rest_step _ _ _ (by rw [List.length_map]; omega), e0]
    have hline : ∀ b : List UInt8, b.length ≤ 11 + 49 * i.toNat → Ev (fun q => spec_l07Text.j1 q (BA b) i n L) (BA ((b ++ lineT (rd L i)) ++ rest [44] (L.map lineT) (i.toNat + 1))) := by
      intro b hb
      refine evSucc (fun q => by rw [spec_l07Text.j1]) ?_
      refine evT h0 (evT (by omega) (evB (nodes_spec _) ?_))
      have hN := nds_len (rd L i)
      refine line_spec n L i (nds (rd L i)) hN (nds_in _) _ (nds (rd L i)).length 0 b (by omega) (by omega) (by omega) ?_
      rw [wrap_in (x := i + 1) (by omega) (by omega), show rest [46] ((nds (rd L i)).map dl) (0 : Int).toNat = lineT (rd L i) from rfl]
      have := ih (i + 1) (b ++ lineT (rd L i)) (by omega) (by omega) (by rw [List.length_append]; omega)
      rwa [show (i + 1).toNat = i.toNat + 1 by omega] at this
    refine evSucc (fun q => by rw [spec_l07Text.l0]) ?_
    refine evT (by omega) ?_
    by_cases c : i > 0
    · rw [if_neg (by omega)]
      refine evT c (evT (by rw [BA_size]; omega) ?_)
      have e1 : BA a ++ (⟨#[44]⟩ : ByteArray) = BA (a ++ [44]) := BA_cat _ [44]
      rw [e1]
      exact evE (by simp) (hline (a ++ [44]) (by rw [List.length_append, List.length_singleton]; omega))
    · rw [if_pos (by omega)]
      exact evF c (evE (by simp) (hline a (by omega)))
/-- The text of a board. -/
def txt (n : Int) (L : List Int) : List UInt8 := (dl n ++ [58]) ++ boardT L
theorem text_spec (n : Int) (L : List Int) (hb : boardB n L = true) : Ev (fun k => spec_l07Text.f k n L) (BA (txt n L)) := by
  obtain ⟨hn, hL, _⟩ := (boardB_iff n L).1 hb
  have hd := dec_len n (by omega) (by omega)
  unfold spec_l07Text.f
  refine evB (dec_spec n (by omega) (by omega)) (evT (by rw [BA_size]; omega) ?_)
  have e : BA (dl n) ++ (⟨#[58]⟩ : ByteArray) = BA (dl n ++ [58]) := BA_cat _ [58]
  rw [e]
  exact text_spec_l n L hL L.length 0 (dl n ++ [58]) (by omega) (by omega) (by rw [List.length_append, List.length_singleton]; omega)
theorem text_impl (n : Int) (L : List Int) (hb : boardB n L = true) : Ev (fun k => impl_BoardText.f k n L) (BA (txt n L), 0) := by
  obtain ⟨hn, hL, _⟩ := (boardB_iff n L).1 hb
  unfold impl_BoardText.f
  refine evB (hb ▸ board_impl n L (by omega)) (evT rfl ?_)
  have := text_impl_l n L (by omega) hL L.length 0 (by omega) (by omega)
  simpa [txt] using this
theorem text_no (n : Int) (L : List Int) (hm : L.length ≤ 4611686018427387904) (hb : boardB n L = false) : Ev (fun k => impl_BoardText.f k n L) ((⟨#[]⟩ : ByteArray), 1) := by
  unfold impl_BoardText.f
  exact evB (hb ▸ board_impl n L hm) (evF (by simp) (evS _))
theorem txt_len (n : Int) (L : List Int) (hb : boardB n L = true) : (txt n L).length ≤ 5000 := by
  obtain ⟨hn, hL, _⟩ := (boardB_iff n L).1 hb
  have hd := dec_len n (by omega) (by omega)
  have h := boardT_len L hL
  unfold txt
  simp only [List.length_append, List.length_singleton]
  omega
end Go.Proofs.YtiaajlehmagljaaDoor.B
