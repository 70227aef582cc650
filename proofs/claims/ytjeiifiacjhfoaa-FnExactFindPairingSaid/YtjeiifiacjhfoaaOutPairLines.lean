/-
  impl.pairLines: the pairs that it finds, as a plain function of lines, pairs and used nodes (pairF). Fewer than 1,000 lines and pairs together.
-/
import Derived.Test.YtjeiifiacjhfoaaOutPairs
import Derived.Test.YtjeiifiacjhfoaaOutNodes
import Derived.Test.YtjeiifiacjhfoaaQ2
namespace Go.Proofs.Ytjeiifiacjhfoaa.Q
open Go.RowKit Go.Proofs.YtjeiifiacjhfoaaW.PrintWords Go.Proofs.YtjeiifiacjhfoaaW.PrintLast Go.Proofs.YtjeiifiacjhfoaaW.PrintMore

abbrev PR := List (Int × Int) × Bool
def tryB (g : Int → Option PR) : List Int → Option PR
  | [] => some ([], false)
  | b :: bs => (g b).bind fun r => if r.2 = true then some (r.1, true) else tryB g bs
def tryA (g : Int → Int → Option PR) : List Int → Option PR
  | [] => some ([], false)
  | a :: more => (tryB (g a) more).bind fun r => if r.2 = true then some (r.1, true) else tryA g more
def pairF : List Int → List (Int × Int) → Int → Option PR
  | [], ps, _ => some (ps, true)
  | line :: rest, ps, used => (anyF (hasP line) (ps.map two)).bind fun b => if b = true then pairF rest ps used else
      (impl_nodesOf.f (Go.bits .andNot .i64 line used)).bind fun free => if free.length ≤ 1000 then
        tryA (fun x y => if (0 ≤ x ∧ x ≤ 63) ∧ 0 ≤ y ∧ y ≤ 63 then pairF rest (ps ++ [(x, y)]) (Go.bits .or .i64 (Go.bits .or .i64 used (shl .i64 1 x)) (shl .i64 1 y)) else none) free
      else none
/-- What a call leaves. -/
def PairPost (base : Nat) (w : World) (r : List (Int × Int)) (ok : Bool) : Ending → World → Prop := fun e w' => ∃ v, e = .returned (.tuple #[v, .bool ok]) ∧ (if ok = true then ∃ bs c A, v = .slice A r.length c ∧ Prs base w' v bs r else v = .slice none 0 0 ∧ r = []) ∧ Below w.heap.size w w'
def PairCalls (lines : List Int) : Prop := ∀ (ps : List (Int × Int)) (used : Int) (r : List (Int × Int)) (ok : Bool) (base : Nat) (bs : List Nat) (Al : Option Addr) (cl : Nat) (A : Option Addr) (c : Nat) (w : World),
  Kd.C (Kd.int .i64) w Al lines.length lines → lines.length ≤ cl → Prs base w (.slice A ps.length c) bs ps → base ≤ w.heap.size → ps.length + lines.length < 1000 → pairF lines ps used = some (r, ok) →
  Calls Try.prog 71 #[.slice Al lines.length cl, .slice A ps.length c, .int .i64 used] w (PairPost base w r ok)
set_option linter.unusedSimpArgs false
set_option maxRecDepth 100000
set_option maxHeartbeats 4000000 in
theorem pair_nil : PairCalls [] := by
  intro ps used r ok base bs Al cl A c w hl hlc hp hb hlt h
  obtain ⟨rfl, rfl⟩ : ps = r ∧ true = ok := by simpa [pairF] using h
  have HP := Aside0.mk hp
  have HB := Aside0.mk (Below.refl w.heap.size w)
  clear hl hp h
  show Calls Try.prog 71 #[.slice Al 0 cl, .slice A ps.length c, .int .i64 used] w _
  go_enter Try.func71, Try.ntmps71
  go_wp2
  go_ret2
  exact ⟨_, rfl, by rw [if_pos rfl]; exact ⟨_, _, _, rfl, HP.out⟩, HB.out⟩
/-- The list's clone with one pair more, in a world that has grown. -/
theorem clone_more {base : Nat} {w w5 w7 : World} {A : Option Addr} {n c : Nat} {bs : List Nat} {ps : List (Int × Int)} {x y : Int} {v5 v7 : Value} (hp : Prs base w (.slice A n c) bs ps) (hbase : base ≤ w.heap.size) (ho : Kd.R Kb 22 w5 w.heap.size (fun _ => True) v5 bs) (hb : Below w.heap.size w w5)
    (ho7 : Kd.R Kb 22 w7 w.heap.size (fun _ => True) v7 (bs ++ [w5.heap.size])) (hg : (w5.alloc (.cells #[.int .i64 x, .int .i64 y] 2)).grownBy w7 v5.ownBlock) : Prs base w7 v7 (bs ++ [w5.heap.size]) (ps ++ [(x, y)]) := by
  have h5 : Prs base w5 v5 bs ps := hp.clone hbase ho hb
  have hlt : ∀ k ∈ bs, k < w5.heap.size := fun k hk => by
    obtain ⟨j, hj, rfl⟩ := List.getElem_of_mem hk
    exact blk_lt (h5.rows j hj (by have := h5.len; omega))
  refine h5.more (Kd.R_lower ho7 hbase) (fun hm => Nat.lt_irrefl _ (hlt _ hm)) (Nat.le_trans hbase hb.size) ?_ (fun k hk => ?_)
  · refine (hg.block _ (by simp) ?_).trans (heap_alloc_new w5 _)
    have := Kd.R_lt ho
    intro e
    have := this _ e.symm
    omega
  · refine (hg.block k (by have := hlt k hk; simp; omega) ?_).trans ((below_alloc (Below.refl _ w5) _).block k (hlt k hk))
    obtain ⟨j, hj, rfl⟩ := List.getElem_of_mem hk
    exact Kd.R_ne ho (h5.rows j hj (by have := h5.len; omega)) (by decide)
theorem wrap_small (i : Int) (h : 0 ≤ i ∧ i ≤ 1000) : wrap64 (i + 1) = i + 1 := by
  unfold wrap64
  omega
theorem shl_form (x : Int) : shl .i64 1 x = IntKind.i64.wrap (2 ^ min x.toNat 64) := by
  unfold shl
  simp [show IntKind.i64.bits = 64 from rfl]
theorem below_more {a w w' : World} (h : Aside0 (Below a.heap.size a w)) (hb : Below w.heap.size w w') : Aside0 (Below a.heap.size a w') := ⟨below_then h.out h.out.size hb⟩
theorem wrap_nat (i : Nat) (h : i ≤ 1000) : wrap64 ((i : Int) + 1) = ((i + 1 : Nat) : Int) := by
  rw [wrap_small _ (by omega)]
  omega
theorem infoN : (Try.prog.info? 2).map (fun i => (i.zero, i.size, i.bytes)) = some (some (.int .i64 0), 1, 8) := by kernel_rfl
set_option maxHeartbeats 40000000 in
theorem pair_cons (line : Int) (rest : List Int) (ih : PairCalls rest) : PairCalls (line :: rest) := by
  intro ps used r ok base bs Al cl A c w hl hlc hp hb hlt h
  have HIH := Aside0.mk ih
  have HP := Aside0.mk hp
  have HLN := Aside0.mk hlt
  have HBS := Aside0.mk hb
  rw [List.length_cons] at hlc hlt
  obtain ⟨ad, e, hx0⟩ := Kd.at_int hl 0 (by omega) (by simp)
  subst e
  have hc0 : w.cell? ad = some (.int .i64 line) := by simpa [Addr.add, rd] using hx0
  obtain ⟨inf, hi1, hi2⟩ := Option.map_eq_some_iff.1 infoN
  have hi3 : inf.size = 1 := congrArg (fun z => z.2.1) hi2
  obtain ⟨Aq, hsl, hrd, hlq⟩ := print_drop_of (P := Try.prog) (Value.int .i64) (0 : Int) 22 2 .i64 Try.underlying22 hi1 hi3 (some ad) cl (line :: rest) 1 (by omega) (by simp only [List.length_cons]; omega) (by rw [List.length_cons]; omega)
  have hsl2 : ∀ W : World, (Instr.slice 22 (.slice (some ad) (rest.length + 1) cl) (some (.int .i64 1)) none none).run Try.prog W = .ok (.slice Aq rest.length (cl - 1)) W := hsl
  have HQ : Aside0 (Kd.C (Kd.int .i64) w Aq rest.length rest) := ⟨Kd.C_of_reads (d := (0 : Int)) (h1 := fun _ => rfl) (hrd w (Kd.reads_of_C (enc := Value.int .i64) (d := (0 : Int)) hl))⟩
  have hlq2 : rest.length ≤ cl - 1 := hlq
  have HLQ := Aside0.mk hlq2
  clear hsl hrd hlq hlq2 hx0 hl
  obtain ⟨b, hany, h⟩ := Option.bind_eq_some_iff.1 (show (anyF (hasP line) (ps.map two)).bind _ = some (r, ok) from h)
  have hrd := hp.reads
  -- the line's box
  have hW1 : (w.alloc (.cells #[.int .i64 line] 2)).heap[w.heap.size]? = some (.cells #[.int .i64 line] 2 (0, 0)) := heap_alloc_new w _
  have hB1 : Below w.heap.size w (w.alloc (.cells #[.int .i64 line] 2)) := (Below.refl _ w).alloc (Nat.le_refl _) _
  have HA := containsFunc_rows 94 #[.pointer (some ⟨w.heap.size, 0, none⟩)] (enters_of Try.func94 (by kernel_rfl) rfl) (hasP line) A c (ps.map two) b _ (pair1_calls w.heap.size line _ hW1) (by rw [List.length_map]; exact Kd.C_below hrd.2.2 hB1) (by rw [List.length_map]; exact hrd.2.1) (by rw [List.length_map]; omega) hany
  rw [List.length_map] at HA
  have HAA := Aside0.mk HA
  have HW1 := Aside0.mk hW1
  have HB1 := Aside0.mk hB1
  clear hany hrd hp HA hW1 hB1 hi1 hi2 hi3 ih hb
  show Calls Try.prog 71 #[.slice (some ad) (rest.length + 1) cl, .slice A ps.length c, .int .i64 used] w _
  cases b with
  | true =>
    rw [if_pos rfl] at h
    have HN : Aside0 (∀ W, Aside0 (Below w.heap.size w W) → Calls Try.prog 71 #[.slice Aq rest.length (cl - 1), .slice A ps.length c, .int .i64 used] W (PairPost base W r ok)) := ⟨fun W hW => HIH.out ps used r ok base bs Aq (cl - 1) A c W (Kd.C_below HQ.out hW.out) HLQ.out (HP.out.below hW.out) (Nat.le_trans HBS.out hW.out.size) (by have := HLN.out; rw [List.length_cons] at this; omega) h⟩
    clear h
    go_enter Try.func71, Try.ntmps71
    go_wp2_with (first
      | (go_at_call 93; refine HAA.out.mono ?_; rintro e w2 ⟨rfl, hb2⟩; have HB2 := Aside0.mk (below_then HB1.out HB1.out.size hb2); clear hb2)
      | (go_at_call 71; refine (HN.out _ HB2).mono ?_; rintro e w3 ⟨v, rfl, hq, hb3⟩; have HB3 := Aside0.mk (below_then HB2.out HB2.out.size hb3); have HQ3 := Aside0.mk hq; clear hq hb3))
    go_ret2
    exact ⟨v, rfl, HQ3.out, HB3.out⟩
  | false =>
    rw [if_neg (by decide)] at h
    obtain ⟨free, hfree, h⟩ := Option.bind_eq_some_iff.1 h
    split at h
    rotate_left
    · cases h
    rename_i hfl
    have HFR := Aside0.mk hfree
    have HFL := Aside0.mk hfl
    clear hfree hfl
    have hgen : ∃ g : Int → Int → Option PR, g = (fun x y => if (0 ≤ x ∧ x ≤ 63) ∧ 0 ≤ y ∧ y ≤ 63 then pairF rest (ps ++ [(x, y)]) (Go.bits .or .i64 (Go.bits .or .i64 used (shl .i64 1 x)) (shl .i64 1 y)) else none) := ⟨_, rfl⟩
    obtain ⟨g, hgd⟩ := hgen
    rw [← hgd] at h
    have HGD := Aside0.mk hgd
    have HT := Aside0.mk h
    clear h hgd
    obtain ⟨inf, hi1, hi2⟩ := Option.map_eq_some_iff.1 infoN
    have hi3 : inf.size = 1 := congrArg (fun z => z.2.1) hi2
    have hsl3 : ∀ (Af : Option Addr) (cf : Nat) (i : Nat), free.length ≤ cf → i < free.length → ∃ A' : Option Addr, (∀ W : World, (Instr.slice 22 (.slice Af free.length cf) (some (.int .i64 ((i : Int) + 1))) none none).run Try.prog W = .ok (.slice A' (free.drop (i + 1)).length (cf - (i + 1))) W) ∧
        (∀ w : World, Kd.C (Kd.int .i64) w Af free.length free → Kd.C (Kd.int .i64) w A' (free.drop (i + 1)).length (free.drop (i + 1))) ∧ (free.drop (i + 1)).length ≤ cf - (i + 1) := fun Af cf i h1 h2 => by
      obtain ⟨A', q1, q2, q3⟩ := print_drop_of (P := Try.prog) (Value.int .i64) (0 : Int) 22 2 .i64 Try.underlying22 hi1 hi3 Af cf free ((i : Int) + 1) (by omega) (by omega) h1
      rw [show ((i : Int) + 1).toNat = i + 1 by omega] at q1 q2 q3
      exact ⟨A', q1, fun w hw => Kd.C_of_reads (d := (0 : Int)) (h1 := fun _ => rfl) (q2 w (Kd.reads_of_C (enc := Value.int .i64) (d := (0 : Int)) hw)), q3⟩
    have HSL := Aside0.mk hsl3
    clear hsl3 hi1 hi2 hi3
    go_enter Try.func71, Try.ntmps71
    go_wp2_with (first
      | (go_at_call 93; refine HAA.out.mono ?_; rintro e w2 ⟨rfl, hb2⟩; have HB2 := Aside0.mk (below_then HB1.out HB1.out.size hb2); have hcl : w2.cell? ⟨w.heap.size, 0, none⟩ = some (.int .i64 line) := blk_cell (blk_below HW1.out hb2) 0; clear hb2)
      | (go_at_call 95; refine (impl_nodesOf.calls _ free _ HFR.out).mono ?_; rintro e w3 ⟨vf, rfl, hof, hb3⟩; have HB3 := Aside0.mk (below_then HB2.out HB2.out.size hb3); have HOF := Aside0.mk hof; clear hof hb3; obtain ⟨Af, cf, ef⟩ := Kd.R_slice HOF.out; subst ef))
    have HCF := Aside0.mk (Kd.R_reads' HOF.out).2.2
    have HLF := Aside0.mk (Kd.R_reads' HOF.out).2.1
    have HP3 := Aside0.mk (HP.out.below HB3.out)
    have HQ3 := Aside0.mk (Kd.C_below HQ.out HB3.out)
    have HBS3 : Aside0 (base ≤ w3.heap.size) := ⟨Nat.le_trans HBS.out HB3.out.size⟩
    clear HAA HW1 HB1 HB2 HFR HOF HP HQ HBS hcl hc0
    go_loopg [40] free.length (fun gg v40 wr => ∃ i : Nat, i ≤ free.length ∧ free.length - i ≤ gg ∧ v40 = .int .i64 i ∧ Aside0 (Below w3.heap.size w3 wr) ∧ Aside0 (tryA g (free.drop i) = some (r, ok)))
    case atStart => exact ⟨0, Nat.zero_le _, by omega, rfl, ⟨Below.refl _ _⟩, ⟨by simpa using HT.out⟩⟩
    case round =>
      obtain ⟨i, hi, hgg, rfl, HD, HI⟩ := hrel
      clear HT
      by_cases hlti : i < free.length
      · have hltz : (i : Int) < (free.length : Int) := by omega
        obtain ⟨af, eaf, hxf⟩ := Kd.at_int (Kd.C_below HCF.out HD.out) (i : Int) (by omega) hltz
        subst eaf
        obtain ⟨x, hx⟩ : ∃ x, x = rd free (i : Int) := ⟨_, rfl⟩
        rw [← hx] at hxf
        rw [Int.toNat_natCast] at hxf
        have hxe : free[i] = x := by rw [hx]; unfold rd; rw [Int.toNat_natCast, List.getD_eq_getElem?_getD, List.getElem?_eq_getElem hlti]; rfl
        have hI := HI.out
        rw [List.drop_eq_getElem_cons hlti, hxe] at hI
        obtain ⟨bs2, hbs2⟩ : ∃ z, z = free.drop (i + 1) := ⟨_, rfl⟩
        obtain ⟨A2, hs3, hr3, hl3⟩ := HSL.out (some af) cf i HLF.out hlti
        rw [← hbs2] at hI hs3 hr3 hl3
        have hw1 : wrap64 ((i : Int) + 1) = (i : Int) + 1 := wrap_small (i : Int) (by have := HFL.out; omega)
        rw [← hw1] at hs3
        have HI2 : Aside0 ((tryB (g x) bs2).bind (fun q => if q.2 = true then some (q.1, true) else tryA g bs2) = some (r, ok)) := ⟨hI⟩
        have HR3 := Aside0.mk hr3
        have HL3 := Aside0.mk hl3
        have HW1 := Aside0.mk hw1
        have HS2 := Aside0.mk hbs2
        have hbl : bs2.length ≤ 1000 := by rw [hbs2, List.length_drop]; exact Nat.le_trans (Nat.sub_le _ _) HFL.out
        have HBL := Aside0.mk hbl
        clear hI HI hr3 hl3 hx hxe hw1 hbs2 hbl
        go_wp2
        go_loopg [50] bs2.length (fun g2 v50 wr2 => ∃ j : Nat, j ≤ bs2.length ∧ bs2.length - j ≤ g2 ∧ v50 = .int .i64 j ∧ Aside0 (Below w3.heap.size w3 wr2) ∧ Aside0 ((tryB (g x) (bs2.drop j)).bind (fun q => if q.2 = true then some (q.1, true) else tryA g bs2) = some (r, ok)))
        case atStart => exact ⟨0, Nat.zero_le _, by omega, rfl, HD, ⟨by simpa using HI2.out⟩⟩
        case round =>
          obtain ⟨j, hj, hg2, rfl, HD2, HJ⟩ := hrel
          clear HI2
          by_cases hltj : j < bs2.length
          · have hltzj : (j : Int) < (bs2.length : Int) := by omega
            have HC2 := Aside0.mk (HR3.out _ (Kd.C_below HCF.out HD2.out))
            obtain ⟨a2, ea2, hxb⟩ := Kd.at_int HC2.out (j : Int) (by omega) hltzj
            subst ea2
            obtain ⟨y, hy⟩ : ∃ y, y = rd bs2 (j : Int) := ⟨_, rfl⟩
            rw [← hy] at hxb
            rw [Int.toNat_natCast] at hxb
            have hye : bs2[j] = y := by rw [hy]; unfold rd; rw [Int.toNat_natCast, List.getD_eq_getElem?_getD, List.getElem?_eq_getElem hltj]; rfl
            have hJ := HJ.out
            rw [List.drop_eq_getElem_cons hltj, hye] at hJ
            obtain ⟨q0, hq0, hJ⟩ := Option.bind_eq_some_iff.1 hJ
            obtain ⟨⟨qr, qok⟩, hq, hq0⟩ := Option.bind_eq_some_iff.1 (show ((g x y).bind fun r => if r.2 = true then some (r.1, true) else tryB (g x) (bs2.drop (j + 1))) = some q0 from hq0)
            have hq1 : (if (0 ≤ x ∧ x ≤ 63) ∧ 0 ≤ y ∧ y ≤ 63 then pairF rest (ps ++ [(x, y)]) (Go.bits .or .i64 (Go.bits .or .i64 used (shl .i64 1 x)) (shl .i64 1 y)) else none) = some (qr, qok) := by
              have := HGD.out
              rw [this] at hq
              exact hq
            clear hq
            by_cases hxy : (0 ≤ x ∧ x ≤ 63) ∧ 0 ≤ y ∧ y ≤ 63
            rotate_left
            · rw [if_neg hxy] at hq1
              cases hq1
            rw [if_pos hxy] at hq1
            have hq := hq1
            clear hq1
            have hx0 := hxy.1.1
            have hy0 := hxy.2.1
            have HPr := Aside0.mk (HP3.out.below HD2.out)
            have hbsl := HPr.out.len
            have HCL : Aside0 (Calls Try.prog 96 #[.slice A ps.length c] wr fun e w' => ∃ v0_ : Value, e = .returned (v0_) ∧ Kd.R Kb 22 w' wr.heap.size (fun _ => True) v0_ bs ∧ Below wr.heap.size wr w') := ⟨by
              have hc := Kd.R_reads' HPr.out.own
              have := clone_calls A c bs wr (hc.2.2) (by have := hc.2.1; omega) (by have := HLN.out; rw [List.length_cons] at this; omega)
              rwa [hbsl] at this⟩
            have HBr : Aside0 (base ≤ wr.heap.size) := ⟨Nat.le_trans HBS3.out HD2.out.size⟩
            have HQq := Aside0.mk hq
            have HQ0 := Aside0.mk hq0
            have HJ2 := Aside0.mk hJ
            have HBSL := Aside0.mk hbsl
            clear hq hq0 hJ HJ hxy hy hye hbsl
            go_wp2_with (first
              | (go_at_call 96; refine HCL.out.mono ?_; rintro e w5 ⟨v5, rfl, ho5, hb5⟩; have HO5 := Aside0.mk ho5; have HB5 := Aside0.mk hb5; clear ho5 hb5)
              | (at_builtin; refine Kd.R_append Kb (w0 := wr) wr.heap.size rfl (.tmp 55) (.tmp 59) 44 22 (.slice none 0 0) 24 rfl Try.underlying44 infoR rfl (by decide) (by omega) v5 bs w5.heap.size [rowV w5.heap.size] (fun _ => True) (fun _ => False) rfl (by show Value.slice (some ⟨w5.heap.size + 1, 0, none⟩) 1 1 = _; rw [World.size_alloc]) ?aP (fun _ hk => hk.elim) ?aF ?aO ?aB ?aS ?aL ?_; (case aP => exact rfl); (case aB => exact below_alloc HB5.out _); (case aF => exact (fun _ _ => trivial)); (case aO => exact Kd.R_alloc HO5.out _); (case aS => exact (below_alloc HB5.out _).size); (case aL => have := HLN.out; rw [List.length_cons] at this; have := HBSL.out; omega); intro v7 w7 ho7 hb7 hg7 hat7; have HO7 := Aside0.mk ho7; have HB7 := Aside0.mk hb7; have HP7 := Aside0.mk (clone_more (x := x) (y := y) HPr.out HBr.out HO5.out HB5.out ho7 hg7); clear ho7 hb7 hg7 hat7; obtain ⟨A7, c7, e7⟩ := Kd.R_slice HO7.out; rw [show (bs ++ [w5.heap.size]).length = (ps ++ [(x, y)]).length from HP7.out.len] at e7; subst e7))
            have HD7 : Aside0 (Below w3.heap.size w3 w7) := ⟨below_then HD2.out HD2.out.size HB7.out⟩
            have HN : Aside0 (∀ W, Aside0 (Below w7.heap.size w7 W) → Calls Try.prog 71 #[.slice Aq rest.length (cl - 1), .slice A7 (ps.length + 1) c7, .int .i64 (Go.bits .or .i64 (Go.bits .or .i64 used (IntKind.i64.wrap (2 ^ min x.toNat 64))) (IntKind.i64.wrap (2 ^ min y.toNat 64)))] W (PairPost base W qr qok)) := ⟨fun W hW => by
              have hw := below_then HD7.out HD7.out.size hW.out
              have hh := HIH.out (ps ++ [(x, y)]) _ qr qok base (bs ++ [w5.heap.size]) Aq (cl - 1) A7 c7 W (Kd.C_below HQ3.out hw) HLQ.out (HP7.out.below hW.out) (Nat.le_trans HBS3.out hw.size) (by have := HLN.out; rw [List.length_cons] at this; rw [List.length_append, List.length_singleton]; omega) HQq.out
              rw [shl_form, shl_form, List.length_append, List.length_singleton] at hh
              exact hh⟩
            have HB77 := Aside0.mk (below_drew (Below.refl w7.heap.size w7))
            clear HQq HP7 HO7 HO5 HB5 HB7 HCL HPr HBr HC2 hxb hxf hltzj hltz
            go_region_held3 (fun w' => Aside0 (Below w7.heap.size w7 w'))
              (first
                | exact HB77
                | go_keep
                | exact below_more (by assumption) hb')
              (first | (go_at_call 71; refine (HN.out _ (by assumption)).mono ?_; rintro e w' ⟨v8, rfl, hq8, hb'⟩))
            rename_i hH7
            have HB8 : Aside0 (Below w3.heap.size w3 w') := ⟨below_then HD7.out HD7.out.size hH7.out⟩
            have HQ8 := Aside0.mk hq8
            clear hq8 hb' hH7 HN HB77 HD7
            cases qok with
            | true =>
              obtain rfl : (qr, true) = q0 := by simpa using HQ0.out
              obtain ⟨hr, ho⟩ : qr = r ∧ true = ok := by simpa using HJ2.out
              subst hr ho
              clear HJ2 HQ0
              go_wp2
              go_ret2
              exact ⟨v8, rfl, HQ8.out, below_then HB3.out HB3.out.size HB8.out⟩
            | false =>
              have hq1 : tryB (g x) (bs2.drop (j + 1)) = some q0 := by simpa using HQ0.out
              have HJ3 : Aside0 ((tryB (g x) (bs2.drop (j + 1))).bind (fun q => if q.2 = true then some (q.1, true) else tryA g bs2) = some (r, ok)) := ⟨by rw [hq1]; exact HJ2.out⟩
              clear hq1 HQ0 HJ2 HQ8
              go_wp2
              go_roundg (bs2.length - (j + 1))
              case measure => omega
              case rel => exact ⟨j + 1, by omega, by omega, by rw [wrap_nat j (by have := HBL.out; omega)], HB8, HJ3⟩
          · have hz : bs2.drop j = [] := List.drop_eq_nil_of_le (by omega)
            have hJ := HJ.out
            rw [hz] at hJ
            have HJ2 : Aside0 (tryA g bs2 = some (r, ok)) := ⟨hJ⟩
            have hnj : ¬ (j : Int) < (bs2.length : Int) := by omega
            clear HJ hJ
            go_wp2
            go_roundg (free.length - (i + 1))
            case measure => omega
            case rel => exact ⟨i + 1, by omega, by omega, by rw [wrap_nat i (by have := HFL.out; omega)], HD2, ⟨by rw [← HS2.out]; exact HJ2.out⟩⟩
      · have hz : free.drop i = [] := List.drop_eq_nil_of_le (by omega)
        have hI := HI.out
        rw [hz] at hI
        obtain ⟨hr, ho⟩ : ([] : List (Int × Int)) = r ∧ false = ok := by simpa [tryA] using hI
        subst hr ho
        have hni : ¬ (i : Int) < (free.length : Int) := by omega
        clear HI hI
        go_wp2
        go_ret2
        exact ⟨_, rfl, by rw [if_neg (by decide)]; exact ⟨rfl, rfl⟩, below_then HB3.out HB3.out.size HD.out⟩
theorem pair_calls : ∀ lines, PairCalls lines
  | [] => pair_nil
  | line :: rest => pair_cons line rest (pair_calls rest)
end Go.Proofs.Ytjeiifiacjhfoaa.Q
