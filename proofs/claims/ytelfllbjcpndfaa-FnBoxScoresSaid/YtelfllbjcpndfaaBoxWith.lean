/-
  The boxes of a position of which so many edges are drawn: program and reference come to the same, for sides 1 to 3 and a set of edges that is no negative number.
-/
import Derived.Test.YtelfllbjcpndfaaQ2
import Derived.Test.YtelfllbjcpndfaaOutWith
import Derived.Test.YtelfllbjcpndfaaBoxSame
namespace Go.Proofs.Ytelfllbjcpndfaa.B
open Go.RowKit Go.Proofs.Ytelfllbjcpndfaa.Q Go.Proofs.YtelfllbjcpndfaaW.PrintWords Go.Proofs.YtelfllbjcpndfaaW.PrintLast Go.Proofs.YtelfllbjcpndfaaW.PrintMore

/-- The edges of a box. -/
def aroundL (W H i : Int) : List Int := (impl_Boxes_around.f W H 0 i).getD []
def aroundOk (W H i : Int) : Bool := impl_Boxes_around.f W H 0 i == some (aroundL W H i) && spec_l03Around.f W H 0 i == some (aroundL W H i) && decide ((aroundL W H i).length = 4) && (aroundL W H i).all fun e => decide (0 ≤ e ∧ e < cnt W H)
theorem around_all : (∀ W ∈ [(1 : Int), 2, 3], ∀ H ∈ [(1 : Int), 2, 3], ∀ i ∈ [(0 : Int), 1, 2, 3, 4, 5, 6, 7, 8], i < W * H → aroundOk W H i = true) := by decide +kernel
theorem around_facts (W H E i : Int) (h1 : 1 ≤ W ∧ W ≤ 3) (h2 : 1 ≤ H ∧ H ≤ 3) (h3 : 0 ≤ i) (h4 : i < W * H) :
    impl_Boxes_around.f W H E i = some (aroundL W H i) ∧ spec_l03Around.f W H E i = some (aroundL W H i) ∧ (aroundL W H i).length = 4 ∧ ∀ e ∈ aroundL W H i, 0 ≤ e ∧ e < cnt W H := by
  have h9 := (cnt_facts W H h1.1 h1.2 h2.1 h2.2).2.2.2.2.2.2.2.2.2.2
  have h := around_all W (by simp; omega) H (by simp; omega) i (by simp; omega) h4
  unfold aroundOk at h
  simp only [Bool.and_eq_true, beq_iff_eq, decide_eq_true_eq, List.all_eq_true] at h
  obtain ⟨⟨⟨a, b⟩, c⟩, d⟩ := h
  exact ⟨a, b, c, d⟩
def dig (E e : Int) : Int := Go.bits .and .i64 (shr .i64 E e) 1
def sumDig (E : Int) : List Int → Int
  | [] => 0
  | e :: L => dig E e + sumDig E L
theorem sumDig_range (E : Int) (h0 : 0 ≤ E) (h1 : E < 9223372036854775808) (L : List Int) : 0 ≤ sumDig E L ∧ sumDig E L ≤ L.length := by
  induction L with
  | nil => simp [sumDig]
  | cons e L ih =>
    have : dig E e = 0 ∨ dig E e = 1 := dig01 E e h0 h1
    simp only [sumDig, List.length_cons]
    omega
theorem drawn_impl_l (W H E : Int) (h0 : 0 ≤ E) (h1 : E < 9223372036854775808) (L : List Int) (hL : L.length ≤ 100) (hE : ∀ e ∈ L, 0 ≤ e) (d : Nat) : ∀ (i acc : Int), 0 ≤ i → i + d = L.length → 0 ≤ acc → acc ≤ i →
    Ev (fun k => impl_Boxes_drawn.l0 k acc L (L.length : Int) i W H E) (acc + sumDig E (L.drop i.toNat)) := by
  induction d with
  | zero =>
    intro i acc hi hd ha hb
    refine evSucc (fun k => by rw [impl_Boxes_drawn.l0]) ?_
    refine evF (by omega) (evE ?_ (evS _))
    rw [List.drop_eq_nil_of_le (by omega)]
    simp [sumDig]
  | succ d ih =>
    intro i acc hi hd ha hb
    have hlt : i.toNat < L.length := by omega
    have e : rd L i = L[i.toNat] := by simp [rd, List.getD_eq_getElem?_getD, hlt]
    have hm := hE _ (List.getElem_mem hlt)
    have hdg : dig E L[i.toNat] = 0 ∨ dig E L[i.toNat] = 1 := dig01 E _ h0 h1
    refine evSucc (fun k => by rw [impl_Boxes_drawn.l0]) ?_
    refine evT (by omega) (evT hi (evT (by omega) (evT (by rw [e]; exact hm) ?_)))
    rw [e, show Go.bits .and .i64 (shr .i64 E L[i.toNat]) 1 = dig E L[i.toNat] from rfl, wrap_in (by omega) (by omega), wrap_in (x := i + 1) (by omega) (by omega)]
    refine evE ?_ (ih (i + 1) (acc + dig E L[i.toNat]) (by omega) (by omega) (by omega) (by omega))
    rw [List.drop_eq_getElem_cons hlt, show (i + 1).toNat = i.toNat + 1 by omega, sumDig]
    omega
theorem drawn_spec_l (W H E : Int) (h0 : 0 ≤ E) (h1 : E < 9223372036854775808) (L : List Int) (hL : L.length ≤ 100) (hE : ∀ e ∈ L, 0 ≤ e ∧ e ≤ 100) (d : Nat) : ∀ (i acc : Int), 0 ≤ i → i + d = L.length → 0 ≤ acc → acc ≤ i →
    Ev (fun k => spec_l03Drawn.l0 k L acc i W H E) (acc + sumDig E (L.drop i.toNat)) := by
  induction d with
  | zero =>
    intro i acc hi hd ha hb
    refine evSucc (fun k => by rw [spec_l03Drawn.l0]) ?_
    refine evF (by omega) (evE ?_ (evS _))
    rw [List.drop_eq_nil_of_le (by omega)]
    simp [sumDig]
  | succ d ih =>
    intro i acc hi hd ha hb
    have hlt : i.toNat < L.length := by omega
    have e : rd L i = L[i.toNat] := by simp [rd, List.getD_eq_getElem?_getD, hlt]
    have hm := hE _ (List.getElem_mem hlt)
    have hdg : dig E L[i.toNat] = 0 ∨ dig E L[i.toNat] = 1 := dig01 E _ h0 h1
    refine evSucc (fun k => by rw [spec_l03Drawn.l0]) ?_
    rw [e, u64_in _ hm.1 (by omega), show Go.bits .and .i64 (shr .i64 E L[i.toNat]) 1 = dig E L[i.toNat] from rfl, wrap_in (by omega) (by omega), wrap_in (x := i + 1) (by omega) (by omega)]
    refine evT (by omega) (evT hi (evT hm.1 ?_))
    refine evE ?_ (ih (i + 1) (acc + dig E L[i.toNat]) (by omega) (by omega) (by omega) (by omega))
    rw [List.drop_eq_getElem_cons hlt, show (i + 1).toNat = i.toNat + 1 by omega, sumDig]
    omega
/-- How many edges of a box are drawn. -/
def drawnN (W H E i : Int) : Int := sumDig E (aroundL W H i)
theorem drawn_impl (W H E i : Int) (h1 : 1 ≤ W ∧ W ≤ 3) (h2 : 1 ≤ H ∧ H ≤ 3) (h3 : 0 ≤ i) (h4 : i < W * H) (e0 : 0 ≤ E) (e1 : E < 9223372036854775808) : Ev (fun k => impl_Boxes_drawn.f k W H E i) (drawnN W H E i) := by
  obtain ⟨a, b, c, d⟩ := around_facts W H E i h1 h2 h3 h4
  unfold impl_Boxes_drawn.f
  refine evG a ?_
  have := drawn_impl_l W H E e0 e1 (aroundL W H i) (by omega) (fun e he => (d e he).1) 4 0 0 (by omega) (by omega) (by omega) (by omega)
  simpa [drawnN] using this
theorem drawn_spec (W H E i : Int) (h1 : 1 ≤ W ∧ W ≤ 3) (h2 : 1 ≤ H ∧ H ≤ 3) (h3 : 0 ≤ i) (h4 : i < W * H) (e0 : 0 ≤ E) (e1 : E < 9223372036854775808) : Ev (fun k => spec_l03Drawn.f k W H E i) (drawnN W H E i) := by
  obtain ⟨a, b, c, d⟩ := around_facts W H E i h1 h2 h3 h4
  have h24 := (cnt_facts W H h1.1 h1.2 h2.1 h2.2).2.2.1
  unfold spec_l03Drawn.f
  refine evG b ?_
  have := drawn_spec_l W H E e0 e1 (aroundL W H i) (by omega) (fun e he => ⟨(d e he).1, by have := (d e he).2; omega⟩) 4 0 0 (by omega) (by omega) (by omega) (by omega)
  simpa [drawnN] using this
/-- The boxes of which so many edges are drawn. -/
def withL (W H E n : Int) : List Int := (seg 0 (W * H).toNat).filter fun i => drawnN W H E i == n
theorem withL_len (W H E n : Int) (h1 : 1 ≤ W ∧ W ≤ 3) (h2 : 1 ≤ H ∧ H ≤ 3) : (withL W H E n).length ≤ 9 := by
  have h9 := (cnt_facts W H h1.1 h1.2 h2.1 h2.2).2.2.2.2.2.2.2.2.2.2
  have := filter_length_le_seg (fun i => drawnN W H E i == n) 0 (W * H).toNat
  unfold withL
  omega
theorem with_impl (W H E n : Int) (h1 : 1 ≤ W ∧ W ≤ 3) (h2 : 1 ≤ H ∧ H ≤ 3) (e0 : 0 ≤ E) (e1 : E < 9223372036854775808) : Ev (fun k => impl_Boxes_with.f k W H E n) (withL W H E n) := by
  obtain ⟨_, _, _, _, _, _, _, _, f9, f10, f11⟩ := cnt_facts W H h1.1 h1.2 h2.1 h2.2
  unfold impl_Boxes_with.f impl_Boxes_boxes.f
  rw [f9]
  refine evG rfl (evT (by omega) ?_)
  refine chooseP_ev (fun k => withP k W H E n) _ _ 0 (fun x hx0 hx1 => ?_)
  obtain ⟨K, hK⟩ := drawn_impl W H E x h1 h2 hx0 (by omega) e0 e1
  exact ⟨K, fun k hk => congrArg (Option.map fun d => d == n) (hK k hk)⟩
theorem with_spec_l (W H E n : Int) (h1 : 1 ≤ W ∧ W ≤ 3) (h2 : 1 ≤ H ∧ H ≤ 3) (e0 : 0 ≤ E) (e1 : E < 9223372036854775808) (d : Nat) : ∀ (i : Int) (acc : List Int), 0 ≤ i → i + d = W * H → acc.length ≤ i →
    Ev (fun k => spec_l03With.l0 k n acc i W H E) (acc ++ (seg i d).filter fun i => drawnN W H E i == n) := by
  obtain ⟨_, _, _, _, _, _, _, _, f9, f10, f11⟩ := cnt_facts W H h1.1 h1.2 h2.1 h2.2
  induction d with
  | zero =>
    intro i acc h0 hd hl
    refine evSucc (fun k => by rw [spec_l03With.l0]) ?_
    rw [f9]
    refine evF (by omega) ?_
    exact evE (by simp [seg]) (evS _)
  | succ d ih =>
    intro i acc h0 hd hl
    refine evSucc (fun k => by rw [spec_l03With.l0]) ?_
    rw [f9, wrap_in (x := i + 1) (by omega) (by omega)]
    refine evT (by omega) (evB (drawn_spec W H E i h1 h2 h0 (by omega) e0 e1) ?_)
    by_cases e : drawnN W H E i = n
    · refine evT e (evT (by omega) ?_)
      refine evE ?_ (ih (i + 1) (acc ++ [i]) (by omega) (by omega) (by simp; omega))
      simp [seg, e]
    · refine evF e ?_
      refine evE ?_ (ih (i + 1) acc (by omega) (by omega) (by omega))
      simp [seg, e]
theorem with_spec (W H E n : Int) (h1 : 1 ≤ W ∧ W ≤ 3) (h2 : 1 ≤ H ∧ H ≤ 3) (e0 : 0 ≤ E) (e1 : E < 9223372036854775808) : Ev (fun k => spec_l03With.f k W H E n) (withL W H E n) := by
  obtain ⟨_, _, _, _, _, _, _, _, f9, f10, f11⟩ := cnt_facts W H h1.1 h1.2 h2.1 h2.2
  unfold spec_l03With.f withL
  have := with_spec_l W H E n h1 h2 e0 e1 (W * H).toNat 0 [] (by omega) (by omega) (by simp)
  simpa using this
end Go.Proofs.Ytelfllbjcpndfaa.B
