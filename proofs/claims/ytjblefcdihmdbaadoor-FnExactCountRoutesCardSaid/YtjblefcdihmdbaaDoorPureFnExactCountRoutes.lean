/-
  The pure statement of the law FnExactCountRoutes: program and reference answer alike, and the rows stay as they were, whatever the arguments.
-/
import Derived.Test.YtjblefcdihmdbaaDoorQ15
import Derived.Test.YtjblefcdihmdbaaDoorCountPure
import Derived.Test.YtjblefcdihmdbaaDoorOutCount
import Derived.Test.YtjblefcdihmdbaaDoorFirstTwo
namespace Go.Proofs.YtjblefcdihmdbaaDoor.B
open Go.RowKit Go.Proofs.YtjblefcdihmdbaaDoor.Q Go.Proofs.YtjblefcdihmdbaaDoorW.PrintWords Go.Proofs.YtjblefcdihmdbaaDoorW.PrintLast

theorem both_routes (l : List ByteArray) (hs : Small l) (a1 : Int) : ∃ r e : Int, Ev (fun k => spec_CountRoutes.f k l a1) (r, e) ∧ Ev (fun k => impl_CountRoutes.f k l a1) (r, e) := by
  unfold spec_CountRoutes.f impl_CountRoutes.f
  by_cases ht : isT l = true
  · by_cases hk : 1 ≤ a1 ∧ a1 ≤ 12
    · obtain ⟨x, y, h1, h2, hg, h83⟩ := first_good ht
      have hR : InR (x, y, 0, 0) := hg.range ht
      have hnum := numQ_range hR
      obtain ⟨d, hd⟩ : ∃ d : Nat, a1 = (d : Int) := ⟨a1.toNat, by omega⟩
      have hW : Ways ((List.replicate 30976 0).set (numQ (x, y, 0, 0)).toNat 1) [(x, y, 0, 0)] := Ways.add ways_zero hR 1
      have hC : Cars [(x, y, 0, 0)] [(x, y, 0, 0)] := ⟨by simp, fun q => Iff.rfl⟩
      have hG : ∀ q ∈ [(x, y, (0 : Int), (0 : Int))], Good l q ∧ goalB l q = false := fun q hq => by
        obtain rfl := List.mem_singleton.1 hq
        exact ⟨hg, by unfold goalB; rw [h83]; rfl⟩
      have hP : [(x, y, (0 : Int), (0 : Int))].length * 9 ^ d ≤ 1000000000000000 := by
        have p1 : 9 ^ d ≤ 9 ^ 12 := Nat.pow_le_pow_right (by omega) (by omega)
        have p2 : (9 : Nat) ^ 12 = 282429536481 := by decide +kernel
        simp only [List.length_singleton, Nat.one_mul]
        omega
      have s1 := cnt_out ht d _ _ _ 0 (by omega) hW hC hG hP
      rw [if_neg (by omega : ¬ d = 0), ← hd] at s1
      have hlen : (List.replicate 30976 (0 : Int)).length = 30976 := List.length_replicate
      clear hW hP
      change Ev (fun k => spec_CountRoutes.l0 k l a1 _ [⟨x, y, 0, 0⟩] 0) _ at s1
      generalize List.replicate 30976 (0 : Int) = rep at s1 hlen ⊢
      have hdn : a1.toNat = d := by omega
      refine ⟨((routesL l d [(x, y, 0, 0)]).countP (goalB l) : Int), 0, evB (track_spec l) (evT ht (evG (in_eq hk.1 hk.2) (evT rfl (evG rfl (evB h1 (evG rfl (evT (by simp) (evG (number_eq (q := (x, y, 0, 0)) hR) (evT hnum.1 (evT (by rw [hlen]; exact hnum.2) s1)))))))))), evG (track_impl l hs) (evG (within_eq hk.1 hk.2) (evB (by rw [ht]; exact first_two true true 1 2) (evT rfl (evG h2 (evT ⟨ht, hg, hk.1, hk.2⟩ (evE ?_ (evS _)))))))⟩
      rw [hdn]
    · exact ⟨0, 2, evB (track_spec l) (evT ht (evG (in_ne hk) (evF (by simp) (evS _)))), evG (track_impl l hs) (evG (within_ne hk) (evB (by rw [ht]; exact first_two true false 1 2) (evF (by decide) (evS _))))⟩
  · have hf : isT l = false := by simpa using ht
    obtain ⟨b, hb⟩ : ∃ b, impl_within.f a1 1 12 = some b := by
      by_cases hk : 1 ≤ a1 ∧ a1 ≤ 12
      · exact ⟨_, within_eq hk.1 hk.2⟩
      · exact ⟨_, within_ne hk⟩
    exact ⟨0, 1, evB (track_spec l) (evF ht (evS _)), evG (track_impl l hs) (evG hb (evB (by rw [hf]; exact first_two false b 1 2) (evF (by simp) (evS _))))⟩
end Go.Proofs.YtjblefcdihmdbaaDoor.B
namespace Go.Proofs.YtjblefcdihmdbaaDoor.Pure
open Go.RowKit Go.Proofs.YtjblefcdihmdbaaDoor.Q Go.Proofs.YtjblefcdihmdbaaDoorW.PrintWords Go.Proofs.YtjblefcdihmdbaaDoorW.PrintLast Go.Proofs.YtjblefcdihmdbaaDoorW.PrintMore Go.Proofs.YtjblefcdihmdbaaDoor.B

theorem FnExactCountRoutes (l : List ByteArray) (a1 : Int) (hm : l.length ≤ maxLen) (hs : ∀ s ∈ l, s.size ≤ maxLen) (_ : (Lit.int .i64 a1).wf = true) :
    Ev (fun k => laws_FnExactCountRoutes.f k l a1) true := by
  unfold laws_FnExactCountRoutes.f
  obtain ⟨z, hz, h⟩ := szStrs l hm hs
  refine evB hz ?_
  rcases h with h | ⟨h, hl⟩
  · exact evT h (evS _)
  · obtain ⟨r, e, h1, h2⟩ := both_routes l hl a1
    refine evF (by omega) (evB (toStrs l hl.1) (evB h1 (evB (toStrs l hl.1) (evB h2 (evT rfl ?_)))))
    refine evSucc (fun k => by rw [laws_FnExactCountRoutes.j0]) ?_
    exact evF (by simp) (evB (toStrs l hl.1) (evB (eqStrs l hl.1) (evT rfl (evS _))))
end Go.Proofs.YtjblefcdihmdbaaDoor.Pure
