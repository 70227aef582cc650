/-
  slices.DeleteFunc over []int64 with a predicate that makes memory and may write one block of its own (a map): whatever the predicate, it comes to the plain choice of what is kept, and what holds of the world behind each call of the predicate is handed on. The row is the caller's own.
-/
import Derived.Test.YtlnngnccengdjaaHofInv
import Derived.Test.YtlnngnccengdjaaDelFunc
namespace Go.Proofs.Ytlnngnccengdjaa.Q
open Go.RowKit Go.Proofs.YtlnngnccengdjaaW.PrintWords Go.Proofs.YtlnngnccengdjaaW.PrintLast Go.Proofs.YtlnngnccengdjaaW.PrintMore

theorem own_apart {row : Option Nat} {P0 : Nat → Prop} {B n : Nat} (h : ∀ k, row = some k → B ≤ k ∧ k < n ∧ ¬ P0 k) : ∀ k, (P0 k ∨ n ≤ k) → some k ≠ row := by
  intro k hk e
  have := h k e.symm
  rcases hk with h1 | h1
  · exact this.2.2 h1
  · omega
set_option maxHeartbeats 4000000 in
set_option maxRecDepth 100000 in
theorem deleteFunc_inv (g : Nat) (lb : Array Value) (eg : ∀ args w, (callFunc g args).run Try.prog w = .ok (.enter g args) w) (p : Int → Option Bool) (I : World → Prop) (row : Option Nat) (P0_ : Nat → Prop) (u : Value) (l r : List Int) (w0 w : World)
    (hIg : ∀ W W', I W → W.grownBy W' u.ownBlock → I W') (hI : I w) (hp : PredInv g lb p I row) (hrow : ∀ k, row = some k → w0.heap.size ≤ k ∧ k < w.heap.size ∧ ¬ P0_ k)
    (hB : Below w0.heap.size w0 w) (ho0 : Kd.R (Kd.int .i64) 2 w w0.heap.size P0_ u l) (h : delP p l = some r) :
    Calls Try.prog 46 #[u, .func (.func g) #[] lb] w fun e w' => ∃ v0_ : Value, e = .returned v0_ ∧ Kd.R (Kd.int .i64) 2 w' w0.heap.size (fun k_ => (P0_ k_ ∨ w.heap.size ≤ k_)) v0_ r ∧ Below w0.heap.size w0 w' ∧ Kept w w' (fun k_ => P0_ k_ ∨ some k_ = row) ∧ I w' := by
  obtain ⟨q, hq, hcase⟩ := delP_idxF p l 0 r h
  obtain ⟨A, c, rfl, hlc, hC⟩ := Kd.R_reads ho0
  have hIF := indexFunc_inv g lb eg p I row A c l q w hp (fun W hg => (Kd.R_reads' (Kd.R_grown ho0 hg (fun k hk e => (hrow k e.symm).2.2 hk))).2.2) hI hlc hC.2.1 hq
  have HO0 := Aside0.mk (show Kd.R (Kd.int .i64) 2 w w0.heap.size (fun k_ => (P0_ k_ ∨ w.heap.size ≤ k_)) (.slice A l.length c) l from Kd.R_mono ho0 (fun k_ hk => (.inl hk)))
  have HB := Aside0.mk hB
  have HP := Aside0.mk hp
  have HG := Aside0.mk hIg
  have HI := Aside0.mk hI
  have HL := Aside0.mk hC.2.1
  have HW := Aside0.mk hrow
  clear hp hIg hI hB hC hrow h hq ho0
  rcases hcase with ⟨rfl, rfl⟩ | ⟨k, rest, e1, hk, hrest, hr⟩
  · go_enter Try.func46, Try.ntmps46
    go_wp2_with (go_at_call 66; refine hIF.mono ?_; rintro e w1 ⟨rfl, hd1, hi1⟩)
    go_ret
    exact ⟨_, rfl, Kd.R_grown HO0.out hd1 (own_apart HW.out), HB.out.grown hd1 HB.out.size (fun k e => (HW.out k e).1), Kept.of_grown hd1 (Kept.refl _ _) (fun k e => .inl (.inr e.symm)), hi1⟩
  · have hne1 : ((k : Int) == -1) = false := beq_eq_false_iff_ne.2 (by omega)
    obtain rfl : q = k := by omega
    obtain ⟨go, co, eo, gb, gl, cl, hcl⟩ := Kd.R_form HO0.out (by omega)
    injection eo with ea en ec
    subst ea ec
    have GB := Aside0.mk gb
    have HM := Aside0.mk (HO0.out.1 go rfl)
    have HR2 := Aside0.mk hrest
    have HR := Aside0.mk hr
    clear gb gl hcl hrest hr e1 en
    go_enter Try.func46, Try.ntmps46
    go_wp2_with (go_at_call 66; refine hIF.mono ?_; rintro e w1 ⟨rfl, hd1, hi1⟩)
    have HO1 := Aside0.mk (Kd.R_grown HO0.out hd1 (own_apart HW.out))
    have HB1 := Aside0.mk (HB.out.grown hd1 HB.out.size (fun k e => (HW.out k e).1))
    have HK1 := Aside0.mk (Kept.of_grown hd1 (Kept.refl w (fun k_ => P0_ k_ ∨ some k_ = row)) (fun k e => .inl (.inr e.symm)))
    have HI1 := Aside0.mk hi1
    clear HO0 HB HI hd1 hIF hi1
    go_loopg [5, 6, 7] l.length (fun gg s5 s6 _ wr => ∃ (i j : Nat) (dk t : List Int), s5 = .int .i64 i ∧ s6 = .int .i64 j ∧ i < j ∧ j ≤ l.length ∧ l.length - j ≤ gg ∧ dk.length = l.length ∧ Aside0 (Kd.R (Kd.int .i64) 2 wr w0.heap.size (fun k_ => (P0_ k_ ∨ w.heap.size ≤ k_)) (.slice (some ⟨go, 0, none⟩) l.length c) dk) ∧ Aside0 (I wr) ∧ Aside0 (Below w0.heap.size w0 wr) ∧ Aside0 (Kept w wr (fun k_ => P0_ k_ ∨ some k_ = row)) ∧ Aside0 (dk.drop j = l.drop j) ∧ Aside0 (delP p (l.drop j) = some t ∧ r = dk.take i ++ t))
    case atStart => exact ⟨k, k + 1, l, rest, rfl, wrap_next _ (by have := HL.out; omega), by omega, by omega, by omega, rfl, HO1, HI1, HB1, HK1, ⟨rfl⟩, ⟨HR2.out, HR.out⟩⟩
    case round =>
      clear HO1 HI1 HB1 HK1 HR2 HR
      obtain ⟨i, j, dk, t, rfl, rfl, hij, hjn, hgg, hdl, HO, HI, HB, HK, HD, HT⟩ := hrel
      by_cases hlt : j < l.length
      · have hltz : (j : Int) < (l.length : Int) := by omega
        have hltz2 : (i : Int) < (l.length : Int) := by omega
        obtain ⟨cj, fj⟩ := Kd.R_celln 0 HO.out (j : Int) (by omega) hltz
        obtain ⟨ci, fi⟩ := Kd.R_celln 0 HO.out (i : Int) (by omega) hltz2
        rw [Int.toNat_natCast] at cj fj ci fi
        have hgl : dk[j]'(by omega) = l[j] := by
          have e := congrArg (fun z => z[0]?) HD.out
          simp only [List.getElem?_drop, Nat.add_zero] at e
          rw [List.getElem?_eq_getElem (by omega), List.getElem?_eq_getElem hlt] at e
          exact Option.some.inj e
        have hy : rdOf 0 dk (j : Int) = l[j] := by rw [← hgl]; simp [rdOf, List.getD_eq_getElem?_getD, show j < dk.length by omega]
        rw [hy] at cj
        obtain ⟨b, t', hb, HT2, HT3⟩ : ∃ b t', p l[j] = some b ∧ Aside0 (delP p (l.drop (j + 1)) = some t') ∧ Aside0 (t = if b = true then t' else l[j] :: t') := by
          have h1 := HT.out.1
          rw [List.drop_eq_getElem_cons hlt] at h1
          simp only [delP] at h1
          obtain ⟨b, hb, h1⟩ := Option.bind_eq_some_iff.1 h1
          obtain ⟨t', ht, h1⟩ := Option.bind_eq_some_iff.1 h1
          exact ⟨b, t', hb, ⟨ht⟩, ⟨(Option.some.inj h1).symm⟩⟩
        have HD2 : Aside0 (dk.drop (j + 1) = l.drop (j + 1)) := ⟨by
          have e := congrArg (List.drop 1) HD.out
          simpa [List.drop_drop] using e⟩
        have hcall := HP.out l[j] b wr hb HI.out
        generalize l[j] = y at cj hcall HT3
        clear hb hy hgl HD
        cases b with
        | true =>
          have HT4 : Aside0 (r = dk.take i ++ t') := ⟨by have := HT.out.2; have := HT3.out; simp_all⟩
          clear HT HT3
          go_wp2_with (go_at_fn g; refine hcall.mono ?_; rintro e w' ⟨rfl, hj', hd⟩)
          go_roundg (l.length - (j + 1))
          case measure => omega
          case rel => exact ⟨i, j + 1, dk, t', rfl, wrap_next _ (by have := HL.out; omega), by omega, by omega, by omega, hdl, ⟨Kd.R_grown HO.out hd (own_apart HW.out)⟩, ⟨hj'⟩, ⟨HB.out.grown hd HB.out.size (fun k e => (HW.out k e).1)⟩, ⟨Kept.of_grown hd HK.out (fun k e => .inl (.inr e.symm))⟩, HD2, ⟨HT2.out, HT4.out⟩⟩
        | false =>
          have HT4 : Aside0 (r = (dk.set i y).take (i + 1) ++ t') := ⟨by
            have h1 := HT.out.2
            have h2 := HT3.out
            rw [h1, h2, List.take_succ_eq_append_getElem (by simp; omega)]
            rw [List.take_set, List.set_eq_of_length_le (by simp; omega)]
            simp⟩
          clear HT HT3
          go_wp2_with (go_at_fn g; refine hcall.mono ?_; rintro e w' ⟨rfl, hj', hd⟩; obtain ⟨ci', fi'⟩ := Kd.R_celln 0 (Kd.R_grown HO.out hd (own_apart HW.out)) (i : Int) (by omega) hltz2; rw [Int.toNat_natCast] at ci' fi')
          have HOm := Kd.R_grown HO.out hd (own_apart HW.out)
          have hpp := Kd.R_putg HOm (i : Int) y
          rw [Int.toNat_natCast] at hpp
          go_roundg (l.length - (j + 1))
          case measure => omega
          case rel =>
            refine ⟨i + 1, j + 1, dk.set i y, t', wrap_next _ (by have := HL.out; omega), wrap_next _ (by have := HL.out; omega), by omega, by omega, by omega, by simpa using hdl, ⟨hpp.1⟩, ⟨?_⟩, ⟨?_⟩, ⟨?_⟩, ⟨?_⟩, ⟨HT2.out, HT4.out⟩⟩
            · exact HG.out _ _ hj' hpp.2
            · exact below_set (HB.out.grown hd HB.out.size (fun k e => (HW.out k e).1)) GB.out
            · exact Kept.of_grown hpp.2 (Kept.of_grown hd HK.out (fun k e => .inl (.inr e.symm))) (fun k e => by have := Option.some.inj e; subst this; exact HM.out.imp .inl id)
            · rw [List.drop_set_of_lt (by omega)]
              exact HD2.out
      · obtain rfl : j = l.length := by omega
        have hltz : ¬ ((l.length : Int) < (l.length : Int)) := by omega
        have HT5 : Aside0 (r = dk.take i) := ⟨by
          have h1 := HT.out.1
          rw [List.drop_length] at h1
          simp only [delP, Option.some.injEq] at h1
          have h2 := HT.out.2
          rw [← h1, List.append_nil] at h2
          exact h2⟩
        have hcl : ∀ ty, (Builtin.clear_ #[24] ty #[.slice (some ⟨go, i, none⟩) (l.length - i) (c - i)]).run Try.prog wr = .ok (.tuple #[]) (wr.setCells go i (List.replicate (l.length - i) (.int .i64 0))) := fun ty =>
          Lib.run_clear_slice wr _ _ ty _ Try.underlying24 zero_i64 rfl rfl go i _ _ (by omega)
            (fun x hx => by have := (Kd.R_celln 0 HO.out ((i + x : Nat) : Int) (by omega) (by omega)).1; rw [Int.toNat_natCast] at this; rw [this]; rfl)
            (fun x hx => by have := (Kd.R_celln 0 HO.out ((i + x : Nat) : Int) (by omega) (by omega)).2; rw [Int.toNat_natCast] at this; exact this)
        obtain ⟨dk2, z1, z2, z3, z4⟩ := R_zeros (l.length - i) i wr dk HO.out
        have hz2 : dk2.length = l.length := by omega
        have HZ := Aside0.mk (And.intro z1 (And.intro z3 z4))
        clear z1 z2 z3 z4 HT
        go_wp2
        go_ret
        refine ⟨_, rfl, ?_, ?_, ?_, HG.out _ _ HI.out HZ.out.2.2⟩
        · rw [HT5.out, ← HZ.out.1]
          exact Kd.R_take HZ.out.2.1 (by omega)
        · have z4 := HZ.out.2.2
          exact HB.out.trans ⟨z4.os, z4.tape, z4.output, z4.size, fun k hk => z4.block k (Nat.lt_of_lt_of_le hk HB.out.size) (fun e => by have := Option.some.inj e; have := GB.out; omega)⟩
        · exact Kept.of_grown HZ.out.2.2 HK.out (fun k e => by have := Option.some.inj e; subst this; exact HM.out.imp .inl id)
end Go.Proofs.Ytlnngnccengdjaa.Q
