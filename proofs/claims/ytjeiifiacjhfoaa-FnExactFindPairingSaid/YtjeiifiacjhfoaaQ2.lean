-- Written by a program of this session (wip/tools/px.sh) over the seat's translation; Lean checks it.
import Derived.Test.YtjeiifiacjhfoaaQ0
import Derived.Test.YtjeiifiacjhfoaaSq
import Derived.Test.YtjeiifiacjhfoaaOutNodes
namespace Go.Proofs.Ytjeiifiacjhfoaa.Q
open Go.RowKit Go.Proofs.YtjeiifiacjhfoaaW.PrintWords Go.Proofs.YtjeiifiacjhfoaaW.PrintLast Go.Proofs.YtjeiifiacjhfoaaW.PrintMore
attribute [local go_sem] max2_int min2_int max_two min_two max_three min_three max_four min_four   -- for this text's walks alone
set_option linter.unusedVariables false
set_option linter.unusedSimpArgs false

/-! ### impl_nodesOf: function 95 -/
def impl_nodesOf.f (a0 : Int) : Option (List Int) := (choose_nodesOf.f 16 a0).bind fun t183 => (some t183)
set_option maxHeartbeats 8000000 in
set_option maxRecDepth 100000 in
theorem impl_nodesOf.calls (a0 : Int) (r : List Int) (w : World) (h : impl_nodesOf.f a0 = some r) :
    Calls Try.prog 95 #[.int .i64 a0] w fun e w' => ∃ v0_ : Value, e = .returned (v0_) ∧ Kd.R (Kd.int .i64) 2 w' w.heap.size (fun _ => True) v0_ r ∧ Below w.heap.size w w' := by
  have HB := Aside0.mk (Below.refl w.heap.size w)
  have H : ((choose_nodesOf.f 16 a0).bind fun t183 => (some t183)) = some r := h
  clear h
  obtain ⟨t183, A2, H⟩ := zb H
  obtain rfl := Option.some.inj H
  go_enter Try.func95, Try.ntmps95
  go_wp2_with (first | ((with_reducible refine gate_dst (N := 1) rfl ?_); refine zX 1 #[.int .i64 a0] 2 ?_; intro gb182 hg w3 hbox hb; refine zA4 (below_step (zH HB.out) hb) (hbox) ((zS hg (below_size (zH HB.out)) : w.heap.size ≤ gb182)) ((zS hg (below_size (zH HB.out)) : w.heap.size ≤ gb182)) ?_; clear HB; intro HB BK182 GW182 GE182; clear hb hbox hg) | ((with_reducible refine gate_callee (f := 106) rfl ?_); refine goesL_ (some 4) rfl rfl Try.func106 (by kernel_rfl) rfl #[.int .i64 16, .func (.func 107) #[] #[.pointer (some ⟨gb182, 0, none⟩)]] rfl zM ?_; (with_reducible refine (choose_nodesOf.calls 16 gb182 a0 t183 _ ?side1 A2.out).mono ?_); (case side1 => exact (zB BK182.out)); rintro e w4 ⟨v184, rfl, ho0, hb⟩; refine ⟨_, rfl, ?_⟩; refine zA3 (Kd.R_lower (Kd.R_newB ho0 (g := gb182) (o := .cells #[.int .i64 a0] 2 (0, 0)) (zB BK182.out)) (below_size (zH1 HB.out GE182.out))) (blk_below (g := gb182) (o := .cells #[.int .i64 a0] 2 (0, 0)) (zB BK182.out) hb) (below_step (zH1 HB.out GE182.out) hb) ?_; clear BK182 HB; intro HO185 BK182 HB; (try clear hb); (try clear hb2); (try clear hk); (try clear hi); (try clear ho0)))
  go_ret
  exact ⟨_, zE, by (with_reducible repeat (first | apply Kd.R_alloc | apply Kd.R_drewN | apply Kd.R_drew)); exact Kd.R_mono HO185.out (fun _ hk => trivial), zH1 HB.out GE182.out⟩

-- NOT PRINTED: function 71 (impl_pairLines)

-- NOT PRINTED: function 35 (impl_FindPairing)

-- NOT PRINTED: function 9 (laws_FnExactFindPairing)

end Go.Proofs.Ytjeiifiacjhfoaa.Q
