/-
  MakerWins: its function 'wins' keeps its contract at every depth; and MakerWins: the code, or who wins; told as the printed functions are.
-/
import Derived.Test.YtjeiifiacjhfoaaOutMaker
namespace Go.Proofs.Ytjeiifiacjhfoaa.Q
open Go.RowKit Go.Proofs.YtjeiifiacjhfoaaW.PrintWords Go.Proofs.YtjeiifiacjhfoaaW.PrintLast Go.Proofs.YtjeiifiacjhfoaaW.PrintMore
open Go.Maps (Keyed)

theorem zero_bool (w : World) : (zeroValue 4).run Try.prog w = .ok (.bool false) w := by kernel_rfl
/-- The world behind the key's making. -/
structure KeyM (k : Nat) (n : Int) (A : Option Addr) (c : Nat) (L : List Int) (qb qk qf g gm gb gy : Nat) (w0 : World) (m b : Int) (w : World) : Prop where
  inv : InvM k n A c L qb qk qf g gm gb w0 m b w
  key : w.heap[gy]? = some (.cells #[.int .i64 m, .int .i64 b] 77 (0, 0))
section
variable {k : Nat} {n : Int} {A : Option Addr} {c : Nat} {L : List Int} {qb qk qf g gm gb gy : Nat} {w0 w w' : World} {m b : Int}
theorem KeyM.below (h : KeyM k n A c L qb qk qf g gm gb gy w0 m b w) (hb : Below w.heap.size w w') : KeyM k n A c L qb qk qf g gm gb gy w0 m b w' := ⟨h.inv.below hb, blk_below h.key hb⟩
theorem KeyM.find (h : KeyM k n A c L qb qk qf g gm gb gy w0 m b w) (hi : InvM k n A c L qb qk qf g gm gb w m b w') : KeyM k n A c L qb qk qf g gm gb gy w0 m b w' :=
  ⟨⟨hi.env, hi.mak, hi.br, grown_then h.inv.grow hi.grow⟩, blk_grown h.key hi.grow (h.inv.env.memo.neM h.key)⟩
end
theorem make_inv (k : Nat) (n : Int) (A : Option Addr) (c : Nat) (L : List Int) (d : Nat) (ih : FindM k n A c L d) (qb qk qf g gm gb : Nat) (w0 : World) (m b : Int) :
    PredInv 77 #[.pointer (some ⟨qf, 0, none⟩), .pointer (some ⟨gm, 0, none⟩), .pointer (some ⟨gb, 0, none⟩)] (makeP (makerF k n L d) m b) (InvM k n A c L qb qk qf g gm gb w0 m b) (some g) := by
  intro x r w h hI
  rw [show (#[Value.int .i64 x] ++ #[Value.pointer (some ⟨qf, 0, none⟩), .pointer (some ⟨gm, 0, none⟩), .pointer (some ⟨gb, 0, none⟩)] : Array Value) = #[.int .i64 x, .pointer (some ⟨qf, 0, none⟩), .pointer (some ⟨gm, 0, none⟩), .pointer (some ⟨gb, 0, none⟩)] from rfl]
  refine (make_pred k n A c L d ih qb qk qf g gm gb w m b x r w h ⟨hI.env, hI.mak, hI.br, grown_refl _ _⟩).mono ?_
  rintro e w' ⟨h1, h2⟩
  exact ⟨h1, ⟨h2.env, h2.mak, h2.br, grown_then hI.grow h2.grow⟩, h2.grow⟩
theorem break_inv (k : Nat) (n : Int) (A : Option Addr) (c : Nat) (L : List Int) (d : Nat) (ih : FindM k n A c L d) (qb qk qf g gm gb : Nat) (w0 : World) (m b : Int) :
    PredInv 78 #[.pointer (some ⟨qf, 0, none⟩), .pointer (some ⟨gm, 0, none⟩), .pointer (some ⟨gb, 0, none⟩)] (breakP (makerF k n L d) m b) (InvM k n A c L qb qk qf g gm gb w0 m b) (some g) := by
  intro x r w h hI
  rw [show (#[Value.int .i64 x] ++ #[Value.pointer (some ⟨qf, 0, none⟩), .pointer (some ⟨gm, 0, none⟩), .pointer (some ⟨gb, 0, none⟩)] : Array Value) = #[.int .i64 x, .pointer (some ⟨qf, 0, none⟩), .pointer (some ⟨gm, 0, none⟩), .pointer (some ⟨gb, 0, none⟩)] from rfl]
  refine (break_pred k n A c L d ih qb qk qf g gm gb w m b x r w h ⟨hI.env, hI.mak, hI.br, grown_refl _ _⟩).mono ?_
  rintro e w' ⟨h1, h2⟩
  exact ⟨h1, ⟨h2.env, h2.mak, h2.br, grown_then hI.grow h2.grow⟩, h2.grow⟩
theorem drawnB {w w' : World} (h : Drawn0 w w') : Below w.heap.size w w' := by
  obtain ⟨nd, rfl⟩ := h
  exact pw_below_drewN (Below.refl _ _) nd
/-- The key's world with the list of free nodes. -/
def KeyL (k : Nat) (n : Int) (A : Option Addr) (c : Nat) (L : List Int) (qb qk qf g gm gb gy : Nat) (w0 : World) (m b : Int) (base : Nat) (v : Value) (l : List Int) (w : World) : Prop := KeyM k n A c L qb qk qf g gm gb gy w0 m b w ∧ Kd.R (Kd.int .i64) 2 w base (fun k_ => base ≤ k_) v l
theorem KeyL.cells {k : Nat} {n : Int} {A : Option Addr} {c : Nat} {L : List Int} {qb qk qf g gm gb gy : Nat} {w0 w w' : World} {m b : Int} {base : Nat} {v : Value} {l : List Int} (h : Aside0 (KeyL k n A c L qb qk qf g gm gb gy w0 m b base v l w)) (hb : Below w.heap.size w w') :
    w'.cell? ⟨gm, 0, none⟩ = some (.int .i64 m) ∧ w'.cell? ⟨gb, 0, none⟩ = some (.int .i64 b) ∧ Aside0 (KeyL k n A c L qb qk qf g gm gb gy w0 m b base v l w') :=
  ⟨blk_cell (h.out.1.below hb).inv.mak 0, blk_cell (h.out.1.below hb).inv.br 0, ⟨h.out.1.below hb, Kd.R_below h.out.2 hb⟩⟩
theorem own_staysM {w W : World} {b e : Nat} {A : Option Addr} {c : Nat} {l : List Int} {base : Nat} (h : Kd.R (Kd.int .i64) e w base (fun k_ => base ≤ k_) (.slice A l.length c) l) (hb : b < base) (hg : w.grownBy W (some b)) : Kd.C (Kd.int .i64) W A l.length l :=
  (Kd.R_reads' (Kd.R_grown h hg (fun k hk e => by have := Option.some.inj e; omega))).2.2
theorem allocs2M (w : World) (o0 o1 : Obj) : ((w.alloc o0).alloc o1).heap[w.heap.size]? = some o0 ∧ ((w.alloc o0).alloc o1).heap[w.heap.size + 1]? = some o1 ∧ Below w.heap.size w ((w.alloc o0).alloc o1) := by
  refine ⟨?_, ?_, ((Below.refl _ _).alloc (Nat.le_refl _) _).alloc (by simp <;> omega) _⟩
  · rw [(MapKept.heap_alloc _ _).2 _ (by simp)]
    exact (MapKept.heap_alloc w o0).1
  · simpa using (MapKept.heap_alloc (w.alloc o0) o1).1
set_option linter.unusedSimpArgs false
set_option maxRecDepth 100000
set_option maxHeartbeats 8000000 in
theorem maker_step (k : Nat) (n : Int) (A : Option Addr) (c : Nat) (L : List Int) (hc : L.length ≤ c) (d : Nat) (ih : FindM k n A c L d) : FindM k n A c L (d + 1) := by
  intro m b r w qb qk qf g hE h0
  have h := h0
  simp only [makerF] at h
  split at h
  rotate_left
  · cases h
  rename_i hok
  obtain ⟨q, hq, h⟩ := Option.bind_eq_some_iff.1 h
  have hwo : (Lit.int .i64 m).wf = true := WalkArith.wf_i64 (by have := hok; unfold okR at this; omega)
  have hwt : (Lit.int .i64 b).wf = true := WalkArith.wf_i64 (by have := hok; unfold okR at this; omega)
  obtain ⟨key, hkey⟩ := mak_key m b hwo hwt
  generalize hw1 : (w.alloc (.cells #[.int .i64 m] 2)).alloc (.cells #[.int .i64 b] 2) = w1
  obtain ⟨ha0, ha1, ha2⟩ := allocs2M w (.cells #[.int .i64 m] 2) (.cells #[.int .i64 b] 2)
  rw [hw1] at ha0 ha1 ha2
  have HI1 : Aside0 (InvM k n A c L qb qk qf g w.heap.size (w.heap.size + 1) w m b w1) := ⟨⟨hE.below ha2, ha0, ha1, grown_below ha2⟩⟩
  obtain ⟨hcf, hc0, hc1, _⟩ := HI1.out.cells
  have hcb0 : w1.cell? ⟨qb, 0, none⟩ = some (.int .i64 n) := blk_cell HI1.out.env.board 0
  have hcb1 : w1.cell? ⟨qb, 1, none⟩ = some (.slice A L.length c) := blk_cell HI1.out.env.board 1
  have hu := Try.underlying27
  have hu2 := Try.underlying77
  have HC := Aside0.mk hc
  have HQ := Aside0.mk hq
  have hlook := HI1.out.env.memo.lookAll makLaw Try.underlying76 zero_bool hkey
  have HF := Aside0.mk ih
  have HK := Aside0.mk hkey
  have HG : Aside0 (goodM k n L (mkV m b) (.bool r)) := ⟨⟨m, b, d + 1, r, rfl, rfl, h0⟩⟩
  have H0 := Aside0.mk h0
  clear hq hE ih hc ha0 ha1 ha2 h0 hkey hok hwo hwt
  by_cases e : q = 0
  · rw [if_pos e] at h
    subst e
    rcases hlook with hmiss | ⟨v, hgood, hhit⟩
    · have HM := Aside0.mk hmiss
      obtain ⟨l, hl, h⟩ := Option.bind_eq_some_iff.1 h
      obtain ⟨x, hx, h⟩ := Option.bind_eq_some_iff.1 h
      obtain ⟨y, hy, h⟩ := Option.bind_eq_some_iff.1 h
      have HL := Aside0.mk hl
      have HX := Aside0.mk hx
      have HY := Aside0.mk hy
      clear hl hx hy hmiss
      go_enter Try.func75, Try.ntmps75
      go_wp2_with (first
        | (go_at_call 69; refine (impl_Board_filled.calls k n A c L m 0 _ HI1.out.env.row.reads HC.out HQ.out).mono ?_; rintro e w2 ⟨rfl, hb2⟩; have HI2 := Aside0.mk (HI1.out.below hb2); obtain ⟨hdf, hd0, hd1, _⟩ := HI2.out.cells; have hmemo : w2.heap[g]? = w1.heap[g]? := hb2.block _ HI1.out.env.memo.lt; obtain ⟨w3, hw3⟩ : ∃ w3, w2.alloc (.cells #[.int .i64 m, .int .i64 b] 77) = w3 := ⟨_, rfl⟩; have hb3 : Below w2.heap.size w2 w3 := (by rw [← hw3]; exact (Below.refl _ _).alloc (Nat.le_refl _) _); have HK3 : Aside0 (KeyM k n A c L qb qk qf g w.heap.size (w.heap.size + 1) w2.heap.size w m b w3) := ⟨⟨HI2.out.below hb3, (by rw [← hw3]; exact heap_alloc_new w2 _)⟩⟩; have hlk := HM.out w3 ((hb3.block _ HI2.out.env.memo.lt).trans hmemo); unfold mkV at hlk; obtain ⟨hef, he0, he1, _⟩ := HK3.out.inv.cells; have hek : w3.cell? ⟨qk, 0, none⟩ = some (.map (some g)) := (blk_cell HK3.out.inv.env.known 0); have hy0 : w3.cell? ⟨w2.heap.size, 0, none⟩ = some (.int .i64 m) := (blk_cell HK3.out.key 0); have hy1 : w3.cell? ⟨w2.heap.size, 1, none⟩ = some (.int .i64 b) := (blk_cell HK3.out.key 1); have heb0 : w3.cell? ⟨qb, 0, none⟩ = some (.int .i64 n) := (blk_cell HK3.out.inv.env.board 0); have heb1 : w3.cell? ⟨qb, 1, none⟩ = some (.slice A L.length c) := (blk_cell HK3.out.inv.env.board 1))
        | (go_at_call 76; refine (impl_Board_free.calls n A c L m b l _ HK3.out.inv.env.row.reads HC.out HL.out).mono ?_; rintro e w4 ⟨v4, rfl, ho4, hb4⟩; obtain ⟨A4, c4, rfl, hl4, hC4⟩ := Kd.R_reads ho4; have HK4 := Aside0.mk (HK3.out.below hb4); have HO4 : Aside0 (Kd.R (Kd.int .i64) 2 w4 w3.heap.size (fun k_ => w3.heap.size ≤ k_) (.slice A4 l.length c4) l) := ⟨Kd.R_mono (Kd.R_bound ho4) (fun _ hk => hk.2.1)⟩))
      have HL4 : Aside0 (KeyL k n A c L qb qk qf g w.heap.size (w.heap.size + 1) w2.heap.size w m b w3.heap.size (.slice A4 l.length c4) l w4) := ⟨HK4.out, HO4.out⟩
      have HGB : Aside0 (g < w3.heap.size) := ⟨HK3.out.inv.env.memo.lt⟩
      clear HO4 ho4 hb4 hy0 hy1 hek hef he0 he1 heb0 heb1 hlk hmemo hdf hd0 hd1 hb2 hb3 hcf hc0 hc1 hcb0 hcb1 HM HQ H0 HL hw1
      by_cases hxy : x = y
      · rw [if_pos hxy] at h
        have hxb : (x == y) = true := beq_iff_eq.2 hxy
        have HA := Aside0.mk h
        clear h hxy
        go_region_held3 (fun w' => w'.cell? ⟨w.heap.size, 0, none⟩ = some (.int .i64 m) ∧ w'.cell? ⟨w.heap.size + 1, 0, none⟩ = some (.int .i64 b) ∧ Aside0 (KeyL k n A c L qb qk qf g w.heap.size (w.heap.size + 1) w2.heap.size w m b w3.heap.size (.slice A4 l.length c4) l w'))
          (first
            | exact KeyL.cells HL4 (below_drew (Below.refl _ _))
            | (go_split_ands; exact KeyL.cells (by assumption) hb'))
          (first
            | (go_at_call 56; refine (impl_many.calls m x _ HX.out).mono ?_; rintro e w' ⟨rfl, hd'⟩; have hb' := drawnB hd')
            | (go_at_call 56; refine (impl_many.calls b y _ HY.out).mono ?_; rintro e w' ⟨rfl, hd'⟩; have hb' := drawnB hd'))
        rename_i hH
        go_wp2_with (first
          | (go_at_call 61; refine (containsFunc_inv 77 _ (enters_of Try.func77 (by kernel_rfl) rfl) (makeP (makerF k n L d) m b) (InvM k n A c L qb qk qf g w.heap.size (w.heap.size + 1) w m b) (some g) _ _ l r _ (make_inv k n A c L d HF.out qb qk qf g w.heap.size (w.heap.size + 1) w m b) (fun W' hg => own_staysM hH.2.2.out.2 HGB.out hg) hH.2.2.out.1.inv hl4 hC4.2.1 HA.out).mono ?_; rintro e w6 ⟨rfl, hg6, hi6⟩; have hk6 := blk_grown hH.2.2.out.1.key hg6 (hH.2.2.out.1.inv.env.memo.neM hH.2.2.out.1.key); have hck6 := blk_cell hi6.env.known 0; have hy60 := blk_cell hk6 0; have hy61 := blk_cell hk6 1)
          | (at_mapUpdate; refine wpList_mapUpdate_memo _ rfl _ _ _ 76 rfl 77 4 makLaw Try.underlying76 (goodM k n L) g rfl hi6.env.memo (goodM_few k n L) _ _ key rfl rfl HK.out HG.out ?_; intro w7 hm7 hg7))
        go_ret
        exact ⟨rfl, hi6.env.grown hg7 hm7, grown_then hi6.grow hg7⟩
      · rw [if_neg hxy] at h
        have hxb : (x == y) = false := beq_eq_false_iff_ne.2 hxy
        by_cases hz : l.length = 0
        · rw [if_pos hz] at h
          obtain rfl := Option.some.inj h
          obtain rfl := List.eq_nil_of_length_eq_zero hz
          clear h hxy hz
          go_region_held3 (fun w' => w'.cell? ⟨w.heap.size, 0, none⟩ = some (.int .i64 m) ∧ w'.cell? ⟨w.heap.size + 1, 0, none⟩ = some (.int .i64 b) ∧ Aside0 (KeyL k n A c L qb qk qf g w.heap.size (w.heap.size + 1) w2.heap.size w m b w3.heap.size (.slice A4 ([] : List Int).length c4) [] w'))
            (first
              | exact KeyL.cells HL4 (below_drew (Below.refl _ _))
              | (go_split_ands; exact KeyL.cells (by assumption) hb'))
            (first
              | (go_at_call 56; refine (impl_many.calls m x _ HX.out).mono ?_; rintro e w' ⟨rfl, hd'⟩; have hb' := drawnB hd')
              | (go_at_call 56; refine (impl_many.calls b y _ HY.out).mono ?_; rintro e w' ⟨rfl, hd'⟩; have hb' := drawnB hd'))
          rename_i hH
          have hck6 := blk_cell hH.2.2.out.1.inv.env.known 0
          have hy60 := blk_cell hH.2.2.out.1.key 0
          have hy61 := blk_cell hH.2.2.out.1.key 1
          go_wp2_with (first
            | (at_mapUpdate; refine wpList_mapUpdate_memo _ rfl _ _ _ 76 rfl 77 4 makLaw Try.underlying76 (goodM k n L) g rfl hH.2.2.out.1.inv.env.memo (goodM_few k n L) _ _ key rfl rfl HK.out HG.out ?_; intro w7 hm7 hg7))
          go_ret
          exact ⟨rfl, hH.2.2.out.1.inv.env.grown hg7 hm7, grown_then hH.2.2.out.1.inv.grow hg7⟩
        · rw [if_neg hz] at h
          obtain ⟨z, hz2, h⟩ := Option.bind_eq_some_iff.1 h
          obtain rfl := Option.some.inj h
          have HA := Aside0.mk hz2
          have hlb : decide ((l.length : Int) > 0) = true := decide_eq_true (by omega)
          have hlc : decide (0 < l.length) = true := decide_eq_true (by omega)
          have hld : 0 < l.length := by omega
          clear h hxy hz hz2
          go_region_held3 (fun w' => w'.cell? ⟨w.heap.size, 0, none⟩ = some (.int .i64 m) ∧ w'.cell? ⟨w.heap.size + 1, 0, none⟩ = some (.int .i64 b) ∧ Aside0 (KeyL k n A c L qb qk qf g w.heap.size (w.heap.size + 1) w2.heap.size w m b w3.heap.size (.slice A4 l.length c4) l w'))
            (first
              | exact KeyL.cells HL4 (below_drew (Below.refl _ _))
              | (go_split_ands; exact KeyL.cells (by assumption) hb'))
            (first
              | (go_at_call 56; refine (impl_many.calls m x _ HX.out).mono ?_; rintro e w' ⟨rfl, hd'⟩; have hb' := drawnB hd')
              | (go_at_call 56; refine (impl_many.calls b y _ HY.out).mono ?_; rintro e w' ⟨rfl, hd'⟩; have hb' := drawnB hd'))
          rename_i hH
          go_wp2_with (first
            | (go_at_call 61; refine (containsFunc_inv 78 _ (enters_of Try.func78 (by kernel_rfl) rfl) (breakP (makerF k n L d) m b) (InvM k n A c L qb qk qf g w.heap.size (w.heap.size + 1) w m b) (some g) _ _ l z _ (break_inv k n A c L d HF.out qb qk qf g w.heap.size (w.heap.size + 1) w m b) (fun W' hg => own_staysM hH.2.2.out.2 HGB.out hg) hH.2.2.out.1.inv hl4 hC4.2.1 HA.out).mono ?_; rintro e w6 ⟨rfl, hg6, hi6⟩; have hk6 := blk_grown hH.2.2.out.1.key hg6 (hH.2.2.out.1.inv.env.memo.neM hH.2.2.out.1.key); have hck6 := blk_cell hi6.env.known 0; have hy60 := blk_cell hk6 0; have hy61 := blk_cell hk6 1)
            | (at_mapUpdate; refine wpList_mapUpdate_memo _ rfl _ _ _ 76 rfl 77 4 makLaw Try.underlying76 (goodM k n L) g rfl hi6.env.memo (goodM_few k n L) _ _ key rfl rfl HK.out HG.out ?_; intro w7 hm7 hg7))
          go_ret
          exact ⟨rfl, hi6.env.grown hg7 hm7, grown_then hi6.grow hg7⟩
    · obtain ⟨m', b', d', r', e, rfl, hw⟩ := hgood
      obtain ⟨rfl, rfl⟩ : m = m' ∧ b = b' := by
        unfold mkV at e
        injection e with e
        have := congrArg Array.toList e
        simpa using this
      obtain rfl := makerF_one k n L _ _ m b r r' H0.out hw
      have HM := Aside0.mk hhit
      clear hhit hw e h
      go_enter Try.func75, Try.ntmps75
      go_wp2_with (first
        | (go_at_call 69; refine (impl_Board_filled.calls k n A c L m 0 _ HI1.out.env.row.reads HC.out HQ.out).mono ?_; rintro e w2 ⟨rfl, hb2⟩; have HI2 := Aside0.mk (HI1.out.below hb2); obtain ⟨hdf, hd0, hd1, _⟩ := HI2.out.cells; have hmemo : w2.heap[g]? = w1.heap[g]? := hb2.block _ HI1.out.env.memo.lt; obtain ⟨w3, hw3⟩ : ∃ w3, w2.alloc (.cells #[.int .i64 m, .int .i64 b] 77) = w3 := ⟨_, rfl⟩; have hb3 : Below w2.heap.size w2 w3 := (by rw [← hw3]; exact (Below.refl _ _).alloc (Nat.le_refl _) _); have HK3 : Aside0 (KeyM k n A c L qb qk qf g w.heap.size (w.heap.size + 1) w2.heap.size w m b w3) := ⟨⟨HI2.out.below hb3, (by rw [← hw3]; exact heap_alloc_new w2 _)⟩⟩; have hlk := HM.out w3 ((hb3.block _ HI2.out.env.memo.lt).trans hmemo); unfold mkV at hlk; have hek : w3.cell? ⟨qk, 0, none⟩ = some (.map (some g)) := (blk_cell HK3.out.inv.env.known 0); have hy0 : w3.cell? ⟨w2.heap.size, 0, none⟩ = some (.int .i64 m) := (blk_cell HK3.out.key 0); have hy1 : w3.cell? ⟨w2.heap.size, 1, none⟩ = some (.int .i64 b) := (blk_cell HK3.out.key 1)))
      go_ret
      exact ⟨rfl, HK3.out.inv.env, HK3.out.inv.grow⟩
  · rw [if_neg e] at h
    obtain rfl := Option.some.inj h
    have hne : (q != 0) = true := by simpa using e
    go_enter Try.func75, Try.ntmps75
    go_wp2_with (first
      | (go_at_call 69; refine (impl_Board_filled.calls k n A c L m q _ HI1.out.env.row.reads HC.out HQ.out).mono ?_; rintro e w2 ⟨rfl, hb2⟩; have HI2 := Aside0.mk (HI1.out.below hb2)))
    go_ret
    exact ⟨rfl, HI2.out.env, HI2.out.grow⟩
theorem maker_at (k : Nat) (n : Int) (A : Option Addr) (c : Nat) (L : List Int) (hc : L.length ≤ c) (d : Nat) : FindM k n A c L d := by
  induction d with
  | zero => intro m b r w qb qk qf g _ h; cases h
  | succ d ih => exact maker_step k n A c L hc d ih
def impl_MakerWins.f (k : Nat) (n : Int) (L : List Int) : Option (Bool × Int) := (impl_IsBoard.f k n L).bind fun b => (impl_first.f k [⟨b, 1⟩, ⟨decide (n ≤ 9), 3⟩]).bind fun c => if c = 0 then (makerF k n L 20 0 0).bind fun r => some (r, 0) else some (false, c)
theorem impl_MakerWins.mono : ∀ a0 a1 k, LeO (impl_MakerWins.f k a0 a1) (impl_MakerWins.f (k + 1) a0 a1) := by
  intro a0 a1 k
  exact LeO.bind (impl_IsBoard.mono _ _ k) (fun b => LeO.bind (impl_first.mono _ k) (fun c => LeO.ite (LeO.bind (makerF_mono _ _ _ k _ _) (fun r => LeO.refl _)) (LeO.refl _)))
/-- A board's variable, and its row. -/
def HeldM (w : World) (n : Int) (A : Option Addr) (c : Nat) (L : List Int) (w' : World) : Prop := w'.heap[w.heap.size]? = some (.cells #[.int .i64 n, .slice A L.length c] 27 (0, 0)) ∧ Below w.heap.size w w' ∧ RowAtM w.heap.size A L w'
section
variable {w a a' : World} {n : Int} {A : Option Addr} {c : Nat} {L : List Int}
theorem HeldM.cells (h : HeldM w n A c L a) : a.cell? ⟨w.heap.size, 0, none⟩ = some (.int .i64 n) ∧ a.cell? ⟨w.heap.size, 1, none⟩ = some (.slice A L.length c) ∧ Aside0 (HeldM w n A c L a) :=
  ⟨blk_cell h.1 0, blk_cell h.1 1, ⟨h⟩⟩
theorem HeldM.drew (h : HeldM w n A c L a) : HeldM w n A c L a.drew := ⟨h.1, below_drew h.2.1, h.2.2.step (fun _ _ _ => rfl) h.2.1.size⟩
theorem heldM_below (h : Aside0 (HeldM w n A c L a)) (hb : Below a.heap.size a a') : HeldM w n A c L a' := ⟨blk_below h.out.1 hb, below_then h.out.2.1 h.out.2.1.size hb, h.out.2.2.step (fun i _ hl => hb.block i hl) h.out.2.1.size⟩
theorem heldM_row (h : Aside0 (HeldM w n A c L a)) : Kd.C (Kd.int .i64) a A L.length L := h.out.2.2.reads
end
theorem heldM_new {w w1 : World} {n : Int} {A : Option Addr} {c : Nat} {L : List Int} (hw1 : w.alloc (.cells #[.int .i64 n, .slice A L.length c] 27) = w1) (hC : Kd.C (Kd.int .i64) w A L.length L) : Aside0 (HeldM w n A c L w1) := by
  have hb : Below w.heap.size w w1 := by rw [← hw1]; exact (Below.refl _ _).alloc (Nat.le_refl _) _
  exact ⟨by rw [← hw1]; simpa using heap_alloc_new w (.cells #[.int .i64 n, .slice A L.length c] 27), hb, w, Nat.le_refl _, hC, fun i hi => hb.block i hi⟩
theorem Memo.newM {P : Program} {q : TypeId} {good : Value → Value → Prop} {w : World} {b : Nat} (h : w.heap[b]? = some (.map #[] 0)) : Memo P q good w b := ⟨#[], 0, h, ⟨by simp, MapKept.stamped_empty 0, by simp⟩, by simp⟩
theorem allocs3M (w : World) (o0 o1 o2 : Obj) : (((w.alloc o0).alloc o1).alloc o2).heap[w.heap.size]? = some o0 ∧ (((w.alloc o0).alloc o1).alloc o2).heap[w.heap.size + 1]? = some o1 ∧
    (((w.alloc o0).alloc o1).alloc o2).heap[w.heap.size + 2]? = some o2 ∧ Below w.heap.size w (((w.alloc o0).alloc o1).alloc o2) := by
  refine ⟨?_, ?_, ?_, (((Below.refl _ _).alloc (Nat.le_refl _) _).alloc (by simp <;> omega) _).alloc (by simp <;> omega) _⟩
  · rw [(MapKept.heap_alloc _ _).2 _ (by simp <;> omega), (MapKept.heap_alloc _ _).2 _ (by simp)]
    exact (MapKept.heap_alloc w o0).1
  · rw [(MapKept.heap_alloc _ _).2 _ (by simp <;> omega)]
    simpa using (MapKept.heap_alloc (w.alloc o0) o1).1
  · simpa using (MapKept.heap_alloc ((w.alloc o0).alloc o1) o2).1
def codeTM : Bool × List (List Nat × List Nat) := (true, [([], []), ([0], [0]), ([1], [1]), ([], []), ([3], [3]), ([4], [4]), ([5], [5]), ([2, 6], [2, 6]), ([7, 1], [7]), ([8, 8, 0, 1, 2, 3, 4, 5, 6, 7, 8], [8])])
def codeBM : List Nat := [0, 1, 3, 0, 8, 24, 56, 127, 255, 511]
theorem codeT_tabM : rtab .any (opsOf Try.f40 1) = codeTM := by kernel_rfl
theorem codeT_bitsM : waitsOk codeTM.2 codeBM = true := by kernel_rfl
set_option maxHeartbeats 8000000 in
theorem impl_MakerWins.calls (k : Nat) (n : Int) (A : Option Addr) (cap : Nat) (L : List Int) (r1 : Bool) (r2 : Int) (w : World) (hC : Kd.C (Kd.int .i64) w A L.length L) (hc : L.length ≤ cap) (h : impl_MakerWins.f k n L = some (r1, r2)) :
    Calls Try.prog 40 #[.agg #[.int .i64 n, .slice A L.length cap]] w fun e w' => e = .returned (.tuple #[.bool r1, .int .i64 r2]) ∧ Below w.heap.size w w' := by
  unfold impl_MakerWins.f at h
  obtain ⟨isb, hisb, h⟩ := Option.bind_eq_some_iff.1 h
  obtain ⟨ys, hys⟩ : ∃ y_ : List (S68), y_ = ([(⟨isb, 1⟩ : S68), (⟨decide (n ≤ 9), 3⟩ : S68)] : List (S68)) := ⟨_, rfl⟩
  rw [← hys] at h
  obtain ⟨code, hcode, h⟩ := Option.bind_eq_some_iff.1 h
  generalize hw1 : w.alloc (.cells #[.int .i64 n, .slice A L.length cap] 27) = w1
  have HK := heldM_new hw1 hC
  obtain ⟨hc0, hc1, _⟩ := HK.out.cells
  have hu := Try.underlying27
  have hu3 := Try.underlying68
  have A3 := Aside0.mk hisb
  have A5 := Aside0.mk hcode
  have Ny := Aside0.mk hys
  have HCAP := Aside0.mk hc
  have HC0 := Aside0.mk hC
  clear hisb hcode hys hC hc
  have hmm := @run_makeMap Try.prog
  have hsf : ∀ (W : World) (a : Addr) (m : Mode) (fn : Fn) (f c : Array Value), (store a (.func fn f c) m).run Try.prog W = stored Try.prog W a (.func fn f c) m := fun W a m fn f c => run_store Try.prog W a _ m rfl
  by_cases e : code = 0
  · rw [if_pos e] at h
    subst e
    obtain ⟨x, hx, h⟩ := Option.bind_eq_some_iff.1 h
    simp only [Option.some.injEq, Prod.mk.injEq] at h
    obtain ⟨rfl, rfl⟩ := h
    have HX := Aside0.mk hx
    clear hx
    go_enter Try.func40, Try.ntmps40
    go_wp2_with fail
    have HKd : Aside0 (HeldM w n A cap L w1.drew) := ⟨HK.out.drew⟩
    refine start_ (n := 10) (S := (fun w' => w'.cell? ⟨w.heap.size, 0, none⟩ = some (.int .i64 n) ∧ w'.cell? ⟨w.heap.size, 1, none⟩ = some (.slice A L.length cap))) (ds := []) #[false, false, false, false, false, false, false, false, false, false] (by kernel_rfl) rfl rfl ⟨HKd.out.cells.1, HKd.out.cells.2.1⟩ (fun hHeld => ?_); refine with_tabW codeT_tabM codeT_bitsM (fun HT_ HW_ => ?_)
    generalize w1.drew = w2 at HKd hHeld ⊢
    refine pure_ (i := 3) (N := some 10) (v := ?_) (a' := ?_) #[false, false, false, true, false, false, false, false, false, false] rfl rfl (any_of HT_.out (by kernel_rfl)) (fun _ _ _ h => h) (Or.inl ⟨by rfl, ?_⟩) ?_ ?_
    rotate_left
    · intro w'
      go_simp
      with_reducible rfl
    rotate_left
    · simp only [Act.put, List.setIfInBounds_toArray, List.set_cons_zero, List.set_cons_succ, i64_w, i32_w]
      rfl
    refine take_ (i := 0) (N := some 7) (v := ?_) (a' := ?_) #[true, false, false, true, false, false, false, false, false, false] rfl rfl (take_ofW HT_.out HW_.out (by kernel_rfl)) (fun _ _ _ h => h) (Or.inl ⟨by rfl, ?_⟩) hHeld ?_ ?_
    rotate_left
    · rintro w' ⟨s0, s1⟩
      go_simp
      with_reducible rfl
    rotate_left
    · simp only [Act.put, List.setIfInBounds_toArray, List.set_cons_zero, List.set_cons_succ, i64_w, i32_w]
      rfl
    refine take_ (i := 4) (N := some 11) (v := ?_) (a' := ?_) #[true, false, false, true, true, false, false, false, false, false] rfl rfl (take_ofW HT_.out HW_.out (by kernel_rfl)) (fun _ _ _ h => h) (Or.inl ⟨by rfl, ?_⟩) hHeld ?_ ?_
    rotate_left
    · rintro w' ⟨s0, s1⟩
      go_simp
      with_reducible rfl
    rotate_left
    · simp only [Act.put, List.setIfInBounds_toArray, List.set_cons_zero, List.set_cons_succ, i64_w, i32_w]
      rfl
    refine pure_ (i := 5) (N := some 12) (v := ?_) (a' := ?_) #[true, false, false, true, true, true, false, false, false, false] rfl rfl (any_of HT_.out (by kernel_rfl)) (fun _ _ _ h => h) (Or.inl ⟨by rfl, ?_⟩) ?_ ?_
    rotate_left
    · intro w'
      go_simp
      with_reducible rfl
    rotate_left
    · simp only [Act.put, List.setIfInBounds_toArray, List.set_cons_zero, List.set_cons_succ, i64_w, i32_w]
      rfl
    refine pure_ (i := 6) (N := some 13) (v := ?_) (a' := ?_) #[true, false, false, true, true, true, true, false, false, false] rfl rfl (any_of HT_.out (by kernel_rfl)) (fun _ _ _ h => h) (Or.inl ⟨by rfl, ?_⟩) ?_ ?_
    rotate_left
    · intro w'
      go_simp
      with_reducible rfl
    rotate_left
    · simp only [Act.put, List.setIfInBounds_toArray, List.set_cons_zero, List.set_cons_succ, i64_w, i32_w]
      rfl
    refine one_ (i := 1) (N := some 8) #[true, true, false, true, true, true, true, false, false, false] rfl rfl (one_of HT_.out (by kernel_rfl)) (by decide) (fun K hK => ?_)
    refine goes_ Try.func18 (by kernel_rfl) rfl #[.agg #[.int .i64 n, .slice A L.length cap]] (by rfl) rfl rfl (by (try simp only [List.map_toArray, List.map_cons, List.map_nil]); first | done | rfl) ?_
    refine (impl_IsBoard.calls k n _ _ L isb _ (heldM_row HKd) HCAP.out A3.out).mono ?_
    rintro e w4 ⟨rfl, hb4⟩
    refine ⟨_, rfl, ?_⟩
    have HK4 := Aside0.mk (heldM_below HKd hb4)
    refine hK.out _ _ ⟨HK4.out.cells.1, HK4.out.cells.2.1⟩ (fun hHeld => ?_)
    clear hK K
    refine norm_ (a' := ?_) ?_ ?_
    rotate_left
    · show Act.put _ (some 8) _ = _
      simp only [Act.put, List.setIfInBounds_toArray, List.set_cons_zero, List.set_cons_succ, i64_w, i32_w]
      rfl
    refine pure_ (i := 2) (N := some 9) (v := ?_) (a' := ?_) #[true, true, true, true, true, true, true, false, false, false] rfl rfl (any_of HT_.out (by kernel_rfl)) (fun _ _ _ h => h) (Or.inl ⟨by rfl, ?_⟩) ?_ ?_
    rotate_left
    · intro w'
      go_simp
      with_reducible rfl
    rotate_left
    · simp only [Act.put, List.setIfInBounds_toArray, List.set_cons_zero, List.set_cons_succ, i64_w, i32_w]
      rfl
    refine one_ (i := 7) (N := some 14) #[true, true, true, true, true, true, true, true, false, false] rfl rfl (one_of HT_.out (by kernel_rfl)) (by decide) (fun K hK => ?_)
    refine Kd.R_lit_step k68 _ 68 ?hg (N := 14) ?hd (xs := ([(⟨isb, 1⟩ : S68), (⟨decide (n ≤ 9), 3⟩ : S68)] : List (S68))) (inner := [.bool isb, .int .i64 1, .bool (decide (n ≤ 9)), .int .i64 3]) (ok := fun _ => True) (okp := fun _ => True) ?hr ?hp (fun _ hk => hk) trivial (Below.refl _ _) (Nat.le_refl _) (by simp) ?_; (case hd => rfl); (case hg => rfl); (case hr => first | (go_simp; done) | (go_simp; rfl)); (case hp => exact (Reps.c2 (show Kd.M k68 _ _ _ (⟨isb, 1⟩ : S68) [.bool isb, .int .i64 1] from (k68_mkM _ _ _ (⟨isb, 1⟩ : S68) )) (Reps.c2 (show Kd.M k68 _ _ _ (⟨decide (n ≤ 9), 3⟩ : S68) [.bool (decide (n ≤ 9)), .int .i64 3] from (k68_mkM _ _ _ (⟨decide (n ≤ 9), 3⟩ : S68) )) (Reps.none _ _))))
    intro v5 w5 ho5 hb5 hg_ hnew_
    clear hg_ hnew_
    rw [← Ny.out] at ho5
    have HK5 := Aside0.mk (heldM_below HK4 hb5)
    have HO5 := Aside0.mk ho5
    clear ho5 hb5
    obtain ⟨Ao5, co5, eo5⟩ := Kd.R_slice HO5.out
    subst eo5
    refine hK.out _ _ ⟨HK5.out.cells.1, HK5.out.cells.2.1⟩ (fun hHeld => ?_)
    clear hK K
    refine norm_ (a' := ?_) ?_ ?_
    rotate_left
    · show Act.put _ (some 14) _ = _
      simp only [Act.put, List.setIfInBounds_toArray, List.set_cons_zero, List.set_cons_succ, i64_w, i32_w]
      rfl
    refine one_ (i := 8) (N := some 15) #[true, true, true, true, true, true, true, true, true, false] rfl rfl (one_of HT_.out (by kernel_rfl)) (by decide) (fun K hK => ?_)
    refine goes_ Try.func64 (by kernel_rfl) rfl #[.slice Ao5 ys.length co5] (by rfl) rfl rfl (by (try simp only [List.map_toArray, List.map_cons, List.map_nil]); first | done | rfl) ?_
    refine (impl_first.calls k _ _ ys 0 _ (Kd.R_reads' HO5.out).2.2 (Kd.R_reads' HO5.out).2.1 A5.out).mono ?_
    rintro e w6 ⟨rfl, hb6⟩
    refine ⟨_, rfl, ?_⟩
    have HK6 := Aside0.mk (heldM_below HK5 hb6)
    clear hb6
    refine hK.out _ _ ⟨HK6.out.cells.1, HK6.out.cells.2.1⟩ (fun hHeld => ?_)
    clear hK K
    refine norm_ (a' := ?_) ?_ ?_
    rotate_left
    · show Act.put _ (some 15) _ = _
      simp only [Act.put, List.setIfInBounds_toArray, List.set_cons_zero, List.set_cons_succ, i64_w, i32_w]
      rfl
    refine pure_ (i := 9) (N := some 4) (v := ?_) (a' := ?_) #[true, true, true, true, true, true, true, true, true, true] rfl rfl (any_of HT_.out (by kernel_rfl)) (fun _ _ _ h => h) (Or.inl ⟨by rfl, ?_⟩) ?_ ?_
    rotate_left
    · intro w'
      go_simp
      with_reducible rfl
    rotate_left
    · simp only [Act.put, List.setIfInBounds_toArray, List.set_cons_zero, List.set_cons_succ, i64_w, i32_w]
      rfl
    refine done_ (done_of HT_.out (by kernel_rfl)) ?_
    clear HK4 HK5 HKd HO5 HT_ HW_ hHeld
    obtain ⟨hd0, hd1, _⟩ := HK6.out.cells
    have hsz : w.heap.size ≤ w6.heap.size := HK6.out.2.1.size
    obtain ⟨ha0, ha1, ha2, ha3⟩ := allocs3M w6 (.map #[] 0) (.cells #[.map (some w6.heap.size)] 76) (.cells #[.func (.func 75) #[] #[.pointer (some ⟨w.heap.size, 0, none⟩), .pointer (some ⟨w6.heap.size + 1, 0, none⟩), .pointer (some ⟨w6.heap.size + 2, 0, none⟩)]] 61)
    obtain ⟨w7, hw7⟩ : ∃ w7, ((w6.alloc (.map #[] 0)).alloc (.cells #[.map (some w6.heap.size)] 76)).alloc (.cells #[.func (.func 75) #[] #[.pointer (some ⟨w.heap.size, 0, none⟩), .pointer (some ⟨w6.heap.size + 1, 0, none⟩), .pointer (some ⟨w6.heap.size + 2, 0, none⟩)]] 61) = w7 := ⟨_, rfl⟩
    rw [hw7] at ha0 ha1 ha2 ha3
    have HK7 := Aside0.mk (heldM_below HK6 ha3)
    have HE7 : Aside0 (EnvM k n A cap L w.heap.size (w6.heap.size + 1) (w6.heap.size + 2) w6.heap.size w7) := ⟨⟨HK7.out.1, ha1, ha2, Memo.newM ha0, by
      obtain ⟨u, hu', hcc, hkk⟩ := HK7.out.2.2
      exact ⟨u, Nat.le_trans hu' hsz, hcc, hkk⟩⟩⟩
    have hcf := blk_cell HE7.out.find 0
    clear ha0 ha1 ha2 ha3
    go_wp2_with (first
      | (go_at_call 75; refine (maker_at k n A cap L HCAP.out 20 0 0 x _ w.heap.size (w6.heap.size + 1) (w6.heap.size + 2) w6.heap.size HE7.out HX.out).mono ?_; rintro e w8 ⟨rfl, he8, hg8⟩))
    go_ret2
    exact ⟨rfl, HK7.out.2.1.grown hg8 HK7.out.2.1.size (fun k e => by have := Option.some.inj e; omega)⟩
  · rw [if_neg e] at h
    simp only [Option.some.injEq, Prod.mk.injEq] at h
    obtain ⟨rfl, rfl⟩ := h
    have hne : (code != 0) = true := by simpa using e
    go_enter Try.func40, Try.ntmps40
    go_wp2_with fail
    have HKd : Aside0 (HeldM w n A cap L w1.drew) := ⟨HK.out.drew⟩
    refine start_ (n := 10) (S := (fun w' => w'.cell? ⟨w.heap.size, 0, none⟩ = some (.int .i64 n) ∧ w'.cell? ⟨w.heap.size, 1, none⟩ = some (.slice A L.length cap))) (ds := []) #[false, false, false, false, false, false, false, false, false, false] (by kernel_rfl) rfl rfl ⟨HKd.out.cells.1, HKd.out.cells.2.1⟩ (fun hHeld => ?_); refine with_tabW codeT_tabM codeT_bitsM (fun HT_ HW_ => ?_)
    generalize w1.drew = w2 at HKd hHeld ⊢
    refine pure_ (i := 3) (N := some 10) (v := ?_) (a' := ?_) #[false, false, false, true, false, false, false, false, false, false] rfl rfl (any_of HT_.out (by kernel_rfl)) (fun _ _ _ h => h) (Or.inl ⟨by rfl, ?_⟩) ?_ ?_
    rotate_left
    · intro w'
      go_simp
      with_reducible rfl
    rotate_left
    · simp only [Act.put, List.setIfInBounds_toArray, List.set_cons_zero, List.set_cons_succ, i64_w, i32_w]
      rfl
    refine take_ (i := 0) (N := some 7) (v := ?_) (a' := ?_) #[true, false, false, true, false, false, false, false, false, false] rfl rfl (take_ofW HT_.out HW_.out (by kernel_rfl)) (fun _ _ _ h => h) (Or.inl ⟨by rfl, ?_⟩) hHeld ?_ ?_
    rotate_left
    · rintro w' ⟨s0, s1⟩
      go_simp
      with_reducible rfl
    rotate_left
    · simp only [Act.put, List.setIfInBounds_toArray, List.set_cons_zero, List.set_cons_succ, i64_w, i32_w]
      rfl
    refine take_ (i := 4) (N := some 11) (v := ?_) (a' := ?_) #[true, false, false, true, true, false, false, false, false, false] rfl rfl (take_ofW HT_.out HW_.out (by kernel_rfl)) (fun _ _ _ h => h) (Or.inl ⟨by rfl, ?_⟩) hHeld ?_ ?_
    rotate_left
    · rintro w' ⟨s0, s1⟩
      go_simp
      with_reducible rfl
    rotate_left
    · simp only [Act.put, List.setIfInBounds_toArray, List.set_cons_zero, List.set_cons_succ, i64_w, i32_w]
      rfl
    refine pure_ (i := 5) (N := some 12) (v := ?_) (a' := ?_) #[true, false, false, true, true, true, false, false, false, false] rfl rfl (any_of HT_.out (by kernel_rfl)) (fun _ _ _ h => h) (Or.inl ⟨by rfl, ?_⟩) ?_ ?_
    rotate_left
    · intro w'
      go_simp
      with_reducible rfl
    rotate_left
    · simp only [Act.put, List.setIfInBounds_toArray, List.set_cons_zero, List.set_cons_succ, i64_w, i32_w]
      rfl
    refine pure_ (i := 6) (N := some 13) (v := ?_) (a' := ?_) #[true, false, false, true, true, true, true, false, false, false] rfl rfl (any_of HT_.out (by kernel_rfl)) (fun _ _ _ h => h) (Or.inl ⟨by rfl, ?_⟩) ?_ ?_
    rotate_left
    · intro w'
      go_simp
      with_reducible rfl
    rotate_left
    · simp only [Act.put, List.setIfInBounds_toArray, List.set_cons_zero, List.set_cons_succ, i64_w, i32_w]
      rfl
    refine one_ (i := 1) (N := some 8) #[true, true, false, true, true, true, true, false, false, false] rfl rfl (one_of HT_.out (by kernel_rfl)) (by decide) (fun K hK => ?_)
    refine goes_ Try.func18 (by kernel_rfl) rfl #[.agg #[.int .i64 n, .slice A L.length cap]] (by rfl) rfl rfl (by (try simp only [List.map_toArray, List.map_cons, List.map_nil]); first | done | rfl) ?_
    refine (impl_IsBoard.calls k n _ _ L isb _ (heldM_row HKd) HCAP.out A3.out).mono ?_
    rintro e w4 ⟨rfl, hb4⟩
    refine ⟨_, rfl, ?_⟩
    have HK4 := Aside0.mk (heldM_below HKd hb4)
    refine hK.out _ _ ⟨HK4.out.cells.1, HK4.out.cells.2.1⟩ (fun hHeld => ?_)
    clear hK K
    refine norm_ (a' := ?_) ?_ ?_
    rotate_left
    · show Act.put _ (some 8) _ = _
      simp only [Act.put, List.setIfInBounds_toArray, List.set_cons_zero, List.set_cons_succ, i64_w, i32_w]
      rfl
    refine pure_ (i := 2) (N := some 9) (v := ?_) (a' := ?_) #[true, true, true, true, true, true, true, false, false, false] rfl rfl (any_of HT_.out (by kernel_rfl)) (fun _ _ _ h => h) (Or.inl ⟨by rfl, ?_⟩) ?_ ?_
    rotate_left
    · intro w'
      go_simp
      with_reducible rfl
    rotate_left
    · simp only [Act.put, List.setIfInBounds_toArray, List.set_cons_zero, List.set_cons_succ, i64_w, i32_w]
      rfl
    refine one_ (i := 7) (N := some 14) #[true, true, true, true, true, true, true, true, false, false] rfl rfl (one_of HT_.out (by kernel_rfl)) (by decide) (fun K hK => ?_)
    refine Kd.R_lit_step k68 _ 68 ?hg (N := 14) ?hd (xs := ([(⟨isb, 1⟩ : S68), (⟨decide (n ≤ 9), 3⟩ : S68)] : List (S68))) (inner := [.bool isb, .int .i64 1, .bool (decide (n ≤ 9)), .int .i64 3]) (ok := fun _ => True) (okp := fun _ => True) ?hr ?hp (fun _ hk => hk) trivial (Below.refl _ _) (Nat.le_refl _) (by simp) ?_; (case hd => rfl); (case hg => rfl); (case hr => first | (go_simp; done) | (go_simp; rfl)); (case hp => exact (Reps.c2 (show Kd.M k68 _ _ _ (⟨isb, 1⟩ : S68) [.bool isb, .int .i64 1] from (k68_mkM _ _ _ (⟨isb, 1⟩ : S68) )) (Reps.c2 (show Kd.M k68 _ _ _ (⟨decide (n ≤ 9), 3⟩ : S68) [.bool (decide (n ≤ 9)), .int .i64 3] from (k68_mkM _ _ _ (⟨decide (n ≤ 9), 3⟩ : S68) )) (Reps.none _ _))))
    intro v5 w5 ho5 hb5 hg_ hnew_
    clear hg_ hnew_
    rw [← Ny.out] at ho5
    have HK5 := Aside0.mk (heldM_below HK4 hb5)
    have HO5 := Aside0.mk ho5
    clear ho5 hb5
    obtain ⟨Ao5, co5, eo5⟩ := Kd.R_slice HO5.out
    subst eo5
    refine hK.out _ _ ⟨HK5.out.cells.1, HK5.out.cells.2.1⟩ (fun hHeld => ?_)
    clear hK K
    refine norm_ (a' := ?_) ?_ ?_
    rotate_left
    · show Act.put _ (some 14) _ = _
      simp only [Act.put, List.setIfInBounds_toArray, List.set_cons_zero, List.set_cons_succ, i64_w, i32_w]
      rfl
    refine one_ (i := 8) (N := some 15) #[true, true, true, true, true, true, true, true, true, false] rfl rfl (one_of HT_.out (by kernel_rfl)) (by decide) (fun K hK => ?_)
    refine goes_ Try.func64 (by kernel_rfl) rfl #[.slice Ao5 ys.length co5] (by rfl) rfl rfl (by (try simp only [List.map_toArray, List.map_cons, List.map_nil]); first | done | rfl) ?_
    refine (impl_first.calls k _ _ ys code _ (Kd.R_reads' HO5.out).2.2 (Kd.R_reads' HO5.out).2.1 A5.out).mono ?_
    rintro e w6 ⟨rfl, hb6⟩
    refine ⟨_, rfl, ?_⟩
    have HK6 := Aside0.mk (heldM_below HK5 hb6)
    clear hb6
    refine hK.out _ _ ⟨HK6.out.cells.1, HK6.out.cells.2.1⟩ (fun hHeld => ?_)
    clear hK K
    refine norm_ (a' := ?_) ?_ ?_
    rotate_left
    · show Act.put _ (some 15) _ = _
      simp only [Act.put, List.setIfInBounds_toArray, List.set_cons_zero, List.set_cons_succ, i64_w, i32_w]
      rfl
    refine pure_ (i := 9) (N := some 4) (v := ?_) (a' := ?_) #[true, true, true, true, true, true, true, true, true, true] rfl rfl (any_of HT_.out (by kernel_rfl)) (fun _ _ _ h => h) (Or.inl ⟨by rfl, ?_⟩) ?_ ?_
    rotate_left
    · intro w'
      go_simp
      with_reducible rfl
    rotate_left
    · simp only [Act.put, List.setIfInBounds_toArray, List.set_cons_zero, List.set_cons_succ, i64_w, i32_w]
      rfl
    refine done_ (done_of HT_.out (by kernel_rfl)) ?_
    clear HK4 HK5 HKd HO5 HT_ HW_ hHeld
    obtain ⟨hd0, hd1, _⟩ := HK6.out.cells
    go_wp2
    go_ret2
    exact ⟨rfl, HK6.out.2.1⟩
end Go.Proofs.Ytjeiifiacjhfoaa.Q
