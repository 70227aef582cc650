/-
  What the program's 'scores' reckons, without its store: at most d edges deep; with rounds k. Positions of W times H boxes whose edges are below 2^24.
-/
import Derived.Test.YtelfllbjcpndfaaQ4
import Derived.Test.YtelfllbjcpndfaaOutFree
import Derived.Test.YtelfllbjcpndfaaHof
namespace Go.Proofs.Ytelfllbjcpndfaa.Q
open Go.RowKit Go.Proofs.YtelfllbjcpndfaaW.PrintWords Go.Proofs.YtelfllbjcpndfaaW.PrintLast Go.Proofs.YtelfllbjcpndfaaW.PrintMore

def okI (x : Int) : Prop := (Lit.int .i64 x).wf = true
instance (x : Int) : Decidable (okI x) := by unfold okI; infer_instance
def okS (E : Int) : Prop := 0 ≤ E ∧ E < 16777216
instance (E : Int) : Decidable (okS E) := by unfold okS; infer_instance
/-- The greatest of what is told at a list's elements, and a number. -/
def maxL (f : Int → Option Int) : List Int → Int → Option Int
  | [], b => some b
  | x :: xs, b => (f x).bind fun n => maxL f xs (mx b n)
theorem maxL_mono {p q : Int → Option Int} (h : ∀ i, LeO (p i) (q i)) (l : List Int) : ∀ b, LeO (maxL p l b) (maxL q l b) := by
  induction l with
  | nil => intro b; exact LeO.refl _
  | cons x l ih => intro b; exact LeO.bind (h x) (fun _ => ih _)
/-- What an edge brings, by what is told of the position behind it. -/
def behindF (f : Int → Option Int) (k : Nat) (W H E e : Int) : Option Int := (impl_Boxes_add.f k W H E e).bind fun m => (f m.2.2.1).bind fun n => some (if m.2.2.2 > 0 then wrap64 (m.2.2.2 + n) else wrap64 (-n))
theorem behindF_mono {p q : Int → Option Int} (h : ∀ i, LeO (p i) (q i)) (k : Nat) (W H E e : Int) : LeO (behindF p k W H E e) (behindF q (k + 1) W H E e) :=
  LeO.bind (impl_Boxes_add.mono _ _ _ _ k) (fun _ => LeO.bind (h _) (fun _ => LeO.refl _))
theorem behindF_le {p q : Int → Option Int} (h : ∀ i, LeO (p i) (q i)) (k : Nat) (W H E e : Int) : LeO (behindF p k W H E e) (behindF q k W H E e) :=
  LeO.bind (LeO.refl _) (fun _ => LeO.bind (h _) (fun _ => LeO.refl _))
def scoreF (k : Nat) (W H : Int) : Nat → Int → Option Int
  | 0, _ => none
  | d + 1, E => if okS E then (impl_Boxes_free.f W H E).bind fun l => if l.length = 0 then some 0 else if l.length ≤ 100 then maxL (behindF (scoreF k W H d) k W H E) l (-100) else none else none
theorem scoreF_mono (W H : Int) (d : Nat) : ∀ (k : Nat) (E : Int), LeO (scoreF k W H d E) (scoreF (k + 1) W H d E) := by
  induction d with
  | zero => intro k E; exact LeO.refl _
  | succ d ih =>
    intro k E
    exact LeO.ite (LeO.bind (LeO.refl _) (fun _ => LeO.ite (LeO.refl _) (LeO.ite (maxL_mono (fun _ => behindF_mono (ih k) _ _ _ _ _) _ _) (LeO.refl _)))) (LeO.refl _)
theorem scoreF_deeper (k : Nat) (W H : Int) (d : Nat) : ∀ (E : Int), LeO (scoreF k W H d E) (scoreF k W H (d + 1) E) := by
  induction d with
  | zero => intro E; exact LeO.none _
  | succ d ih =>
    intro E
    exact LeO.ite (LeO.bind (LeO.refl _) (fun _ => LeO.ite (LeO.refl _) (LeO.ite (maxL_mono (fun _ => behindF_le ih _ _ _ _ _) _ _) (LeO.refl _)))) (LeO.refl _)
theorem scoreF_upto (k : Nat) (W H : Int) (d e : Nat) (E : Int) : LeO (scoreF k W H d E) (scoreF k W H (d + e) E) := by
  induction e with
  | zero => exact LeO.refl _
  | succ e ih => exact LeO.trans ih (scoreF_deeper k W H (d + e) E)
theorem scoreF_one (k : Nat) (W H : Int) (d e : Nat) (E : Int) (r s : Int) (h : scoreF k W H d E = some r) (h' : scoreF k W H e E = some s) : r = s := by
  have h1 := scoreF_upto k W H d e E r h
  have h2 := scoreF_upto k W H e d E s h'
  rw [Nat.add_comm] at h2
  exact Option.some.inj (h1.symm.trans h2)
theorem scoreF_ok (k : Nat) (W H : Int) (d : Nat) (E : Int) (r : Int) (h : scoreF k W H d E = some r) : okS E := by
  cases d with
  | zero => cases h
  | succ d =>
    unfold scoreF at h
    split at h
    · assumption
    · cases h
theorem add_form (k : Nat) (W H E e : Int) (m : Int × Int × Int × Int) (h : impl_Boxes_add.f k W H E e = some m) : m = (W, H, m.2.2.1, m.2.2.2) := by
  unfold impl_Boxes_add.f at h
  split at h
  · obtain ⟨_, _, h⟩ := Option.bind_eq_some_iff.1 h
    obtain ⟨_, _, h⟩ := Option.bind_eq_some_iff.1 h
    obtain ⟨_, _, h⟩ := Option.bind_eq_some_iff.1 h
    obtain ⟨_, _, h⟩ := Option.bind_eq_some_iff.1 h
    obtain rfl := Option.some.inj h
    rfl
  · cases h
end Go.Proofs.Ytelfllbjcpndfaa.Q
