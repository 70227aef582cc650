/-
  What the 'wins' of the program's MakerWins reckons, without its store: at most d nodes deep; with rounds k. Boards of n nodes with the lines L; sets below 2^16.
-/
import Derived.Test.YtjeiifiacjhfoaaNodes
import Derived.Test.YtjeiifiacjhfoaaQ4
namespace Go.Proofs.Ytjeiifiacjhfoaa.Q
open Go.RowKit Go.Proofs.YtjeiifiacjhfoaaW.PrintWords Go.Proofs.YtjeiifiacjhfoaaW.PrintLast Go.Proofs.YtjeiifiacjhfoaaW.PrintMore

/-- The maker takes a node; the breaker takes a node. -/
def makeP (f : Int → Int → Option Bool) (m b p : Int) : Option Bool := if 0 ≤ p then f (withN m p) b else none
def breakP (f : Int → Int → Option Bool) (m b p : Int) : Option Bool := if 0 ≤ p then (f m (withN b p)).bind fun z => some (!z) else none
theorem makeP_le {f g : Int → Int → Option Bool} (h : ∀ i j, LeO (f i j) (g i j)) (m b p : Int) : LeO (makeP f m b p) (makeP g m b p) := LeO.ite (h _ _) (LeO.refl _)
theorem breakP_le {f g : Int → Int → Option Bool} (h : ∀ i j, LeO (f i j) (g i j)) (m b p : Int) : LeO (breakP f m b p) (breakP g m b p) := LeO.ite (LeO.bind (h _ _) (fun _ => LeO.refl _)) (LeO.refl _)
def makerF (k : Nat) (n : Int) (L : List Int) : Nat → Int → Int → Option Bool
  | 0, _, _ => none
  | d + 1, m, b => if okR m b then (impl_Board_filled.f k n L m).bind fun q => if q = 0 then (impl_Board_free.f n L m b).bind fun l => (impl_many.f m).bind fun x => (impl_many.f b).bind fun y => if x = y then anyF (makeP (makerF k n L d) m b) l else if l.length = 0 then some false else (anyF (breakP (makerF k n L d) m b) l).bind fun z => some (!z) else some true else none
theorem makerF_mono (n : Int) (L : List Int) (d : Nat) : ∀ (k : Nat) (m b : Int), LeO (makerF k n L d m b) (makerF (k + 1) n L d m b) := by
  induction d with
  | zero => intro k m b; exact LeO.refl _
  | succ d ih =>
    intro k m b
    exact LeO.ite (LeO.bind (impl_Board_filled.mono _ _ _ k) (fun _ => LeO.ite (LeO.bind (LeO.refl _) (fun _ => LeO.bind (LeO.refl _) (fun _ => LeO.bind (LeO.refl _) (fun _ => LeO.ite (anyF_mono (makeP_le (ih k) _ _) _) (LeO.ite (LeO.refl _) (LeO.bind (anyF_mono (breakP_le (ih k) _ _) _) (fun _ => LeO.refl _))))))) (LeO.refl _))) (LeO.refl _)
theorem makerF_deeper (k : Nat) (n : Int) (L : List Int) (d : Nat) : ∀ (m b : Int), LeO (makerF k n L d m b) (makerF k n L (d + 1) m b) := by
  induction d with
  | zero => intro m b; exact LeO.none _
  | succ d ih =>
    intro m b
    exact LeO.ite (LeO.bind (LeO.refl _) (fun _ => LeO.ite (LeO.bind (LeO.refl _) (fun _ => LeO.bind (LeO.refl _) (fun _ => LeO.bind (LeO.refl _) (fun _ => LeO.ite (anyF_mono (makeP_le ih _ _) _) (LeO.ite (LeO.refl _) (LeO.bind (anyF_mono (breakP_le ih _ _) _) (fun _ => LeO.refl _))))))) (LeO.refl _))) (LeO.refl _)
theorem makerF_upto (k : Nat) (n : Int) (L : List Int) (d e : Nat) (m b : Int) : LeO (makerF k n L d m b) (makerF k n L (d + e) m b) := by
  induction e with
  | zero => exact LeO.refl _
  | succ e ih => exact LeO.trans ih (makerF_deeper k n L (d + e) m b)
theorem makerF_one (k : Nat) (n : Int) (L : List Int) (d e : Nat) (m b : Int) (r s : Bool) (h : makerF k n L d m b = some r) (h' : makerF k n L e m b = some s) : r = s := by
  have h1 := makerF_upto k n L d e m b r h
  have h2 := makerF_upto k n L e d m b s h'
  rw [Nat.add_comm] at h2
  exact Option.some.inj (h1.symm.trans h2)
theorem makerF_ok (k : Nat) (n : Int) (L : List Int) (d : Nat) (m b : Int) (r : Bool) (h : makerF k n L d m b = some r) : okR m b := by
  cases d with
  | zero => cases h
  | succ d =>
    unfold makerF at h
    split at h
    · assumption
    · cases h
end Go.Proofs.Ytjeiifiacjhfoaa.Q
