/-
  Positions of dots and boxes: whether there is one, its edges that are not drawn, and its boxes of which so many edges are drawn: program and reference come to the same. No condition beyond those that are written.
-/
import Derived.Test.YtelfllbjcpndfaaQ1
import Derived.Test.YtelfllbjcpndfaaQ2
import Derived.Test.YtelfllbjcpndfaaQ0
import Derived.Test.YtelfllbjcpndfaaOutFree
import Derived.Test.YtelfllbjcpndfaaInEq
import Derived.Test.YtelfllbjcpndfaaChooseLaws
namespace Go.Proofs.Ytelfllbjcpndfaa.B
open Go.RowKit Go.Proofs.Ytelfllbjcpndfaa.Q Go.Proofs.YtelfllbjcpndfaaW.PrintWords Go.Proofs.YtelfllbjcpndfaaW.PrintLast Go.Proofs.YtelfllbjcpndfaaW.PrintMore

/-- The number of edges, as the reference reckons it; and how many sets of edges there are. -/
def cnt (W H : Int) : Int := wrap64 (wrap64 (W * wrap64 (H + 1)) + wrap64 (H * wrap64 (W + 1)))
def cap (W H : Int) : Int := shl .i64 1 (IntKind.u64.wrap (cnt W H))
theorem nine (P : Int → Int → Prop) (h : ∀ W ∈ [(1 : Int), 2, 3], ∀ H ∈ [(1 : Int), 2, 3], P W H) (W H : Int) (h1 : 1 ≤ W) (h2 : W ≤ 3) (h3 : 1 ≤ H) (h4 : H ≤ 3) : P W H :=
  h W (by simp; omega) H (by simp; omega)
theorem cnt_facts (W H : Int) (h1 : 1 ≤ W) (h2 : W ≤ 3) (h3 : 1 ≤ H) (h4 : H ≤ 3) :
    wrap64 ((wrap64 (W * (wrap64 (H + 1)))) + (wrap64 ((wrap64 (W + 1)) * H))) = cnt W H ∧ 4 ≤ cnt W H ∧ cnt W H ≤ 24 ∧ IntKind.u64.wrap (cnt W H) = cnt W H ∧
      wrap64 (shl .i64 1 (cnt W H) - 1) = cap W H - 1 ∧ 16 ≤ cap W H ∧ cap W H ≤ 16777216 ∧ cap W H = 2 ^ (cnt W H).toNat ∧ wrap64 (W * H) = W * H ∧ 1 ≤ W * H ∧ W * H ≤ 9 :=
  nine (fun W H => wrap64 ((wrap64 (W * (wrap64 (H + 1)))) + (wrap64 ((wrap64 (W + 1)) * H))) = cnt W H ∧ 4 ≤ cnt W H ∧ cnt W H ≤ 24 ∧ IntKind.u64.wrap (cnt W H) = cnt W H ∧
      wrap64 (shl .i64 1 (cnt W H) - 1) = cap W H - 1 ∧ 16 ≤ cap W H ∧ cap W H ≤ 16777216 ∧ cap W H = 2 ^ (cnt W H).toNat ∧ wrap64 (W * H) = W * H ∧ 1 ≤ W * H ∧ W * H ≤ 9) (by decide +kernel) W H h1 h2 h3 h4
/-- Is there a position? -/
def isBoxB (W H E : Int) : Bool := decide (1 ≤ W ∧ W ≤ 3) && decide (1 ≤ H ∧ H ≤ 3) && decide (0 ≤ E ∧ E < cap W H)
theorem isBoxB_iff (W H E : Int) : isBoxB W H E = true ↔ (1 ≤ W ∧ W ≤ 3) ∧ (1 ≤ H ∧ H ≤ 3) ∧ 0 ≤ E ∧ E < cap W H := by
  unfold isBoxB
  simp only [Bool.and_eq_true, decide_eq_true_eq]
  constructor
  · rintro ⟨⟨a, b⟩, c⟩; exact ⟨a, b, c⟩
  · rintro ⟨a, b, c⟩; exact ⟨⟨a, b⟩, c⟩
theorem isBox_impl (W H E : Int) : impl_IsBoxes.f W H E = some (isBoxB W H E) := by
  unfold impl_IsBoxes.f impl_Boxes_edges.f
  simp only [within_eq, Option.bind_some]
  by_cases h1 : 1 ≤ W ∧ W ≤ 3
  · by_cases h2 : 1 ≤ H ∧ H ≤ 3
    · obtain ⟨f1, f2, f3, f4, f5, f6, f7, _⟩ := cnt_facts W H h1.1 h1.2 h2.1 h2.2
      rw [f1, f5]
      have e : (E ≤ cap W H - 1) = (E < cap W H) := propext (by omega)
      simp [h1, h2, isBoxB, e, show 0 ≤ cnt W H by omega]
    · simp [h1, h2, isBoxB]
  · simp [h1, isBoxB]
theorem isBox_spec (W H E : Int) : spec_l03Is.f W H E = some (isBoxB W H E) := by
  unfold spec_l03Is.f spec_l03Count.f
  simp only [l01In_eq, Option.bind_some]
  by_cases h1 : 1 ≤ W ∧ W ≤ 3
  · by_cases h2 : 1 ≤ H ∧ H ≤ 3
    · obtain ⟨f1, f2, f3, f4, f5, f6, f7, _⟩ := cnt_facts W H h1.1 h1.2 h2.1 h2.2
      have e1 : wrap64 (wrap64 (W * wrap64 (H + 1)) + wrap64 (H * wrap64 (W + 1))) = cnt W H := rfl
      have e2 : shl .i64 1 (cnt W H) = cap W H := by unfold cap; rw [f4]
      rw [e1, f4, e2]
      by_cases h3 : E ≥ 0
      · simp [h1, h2, isBoxB, show 0 ≤ E from h3, show 0 ≤ cnt W H by omega]
      · simp [h1, h2, isBoxB, show ¬ 0 ≤ E from h3]
    · simp [h1, h2, isBoxB]
  · simp [h1, isBoxB]
/-- Is an edge not drawn? -/
def notDrawn (E e : Int) : Bool := Go.bits .and .i64 (shr .i64 E e) 1 == 0
/-- The edges that are not drawn. -/
def freeL (W H E : Int) : List Int := (seg 0 (cnt W H).toNat).filter (notDrawn E)
theorem freeL_len (W H E : Int) (h : isBoxB W H E = true) : (freeL W H E).length ≤ 24 := by
  obtain ⟨h1, h2, h3⟩ := (isBoxB_iff W H E).1 h
  have := cnt_facts W H h1.1 h1.2 h2.1 h2.2
  have := filter_length_le_seg (notDrawn E) 0 (cnt W H).toNat
  unfold freeL
  omega
theorem free_impl (W H E : Int) (h : isBoxB W H E = true) : impl_Boxes_free.f W H E = some (freeL W H E) := by
  obtain ⟨h1, h2, h3, h4⟩ := (isBoxB_iff W H E).1 h
  obtain ⟨f1, f2, f3, f4, f5, f6, f7, _⟩ := cnt_facts W H h1.1 h1.2 h2.1 h2.2
  unfold impl_Boxes_free.f impl_Boxes_edges.f
  rw [f1]
  simp only [Option.bind_some]
  rw [if_pos (by omega)]
  refine chooseP_total _ _ _ _ (fun x hx0 hx1 => ?_)
  unfold freeP impl_Boxes_has.f notDrawn
  rw [if_pos hx0]
  rcases dig01 E x h3 (by omega) with e | e <;> simp [e]
theorem free_spec_l (W H E : Int) (h : isBoxB W H E = true) (d : Nat) : ∀ (i : Int) (acc : List Int), 0 ≤ i → i + d = cnt W H → acc.length ≤ i →
    Ev (fun k => spec_l03Free.l0 k acc i W H E) (acc ++ (seg i d).filter (notDrawn E)) := by
  obtain ⟨h1, h2, h3, h4⟩ := (isBoxB_iff W H E).1 h
  obtain ⟨f1, f2, f3, f4, f5, f6, f7, _⟩ := cnt_facts W H h1.1 h1.2 h2.1 h2.2
  induction d with
  | zero =>
    intro i acc h0 hd hl
    refine evSucc (fun k => by rw [spec_l03Free.l0]) ?_
    refine evG (by unfold spec_l03Count.f; rfl) ?_
    refine evF (show ¬ i < cnt W H by omega) ?_
    exact evE (by simp [seg]) (evS _)
  | succ d ih =>
    intro i acc h0 hd hl
    refine evSucc (fun k => by rw [spec_l03Free.l0]) ?_
    refine evG (by unfold spec_l03Count.f; rfl) ?_
    refine evT (show i < cnt W H by omega) ?_
    rw [u64_in i h0 (by omega), wrap_in (x := i + 1) (by omega) (by omega)]
    refine evT h0 ?_
    rcases dig01 E i h3 (by omega) with e | e
    · refine evT e (evT (by omega) ?_)
      refine evE ?_ (ih (i + 1) (acc ++ [i]) (by omega) (by omega) (by simp; omega))
      simp [seg, notDrawn, e]
    · refine evF (by omega) ?_
      refine evE ?_ (ih (i + 1) acc (by omega) (by omega) (by omega))
      simp [seg, notDrawn, e]
theorem free_spec (W H E : Int) (h : isBoxB W H E = true) : Ev (fun k => spec_l03Free.f k W H E) (freeL W H E) := by
  obtain ⟨h1, h2, h3, h4⟩ := (isBoxB_iff W H E).1 h
  obtain ⟨f1, f2, f3, _⟩ := cnt_facts W H h1.1 h1.2 h2.1 h2.2
  unfold spec_l03Free.f freeL
  have := free_spec_l W H E h (cnt W H).toNat 0 [] (by omega) (by omega) (by simp)
  simpa using this
end Go.Proofs.Ytelfllbjcpndfaa.B
