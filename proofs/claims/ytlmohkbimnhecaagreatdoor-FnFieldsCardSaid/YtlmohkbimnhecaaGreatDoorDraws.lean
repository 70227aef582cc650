/-
  The reference's draws end, whatever the code: what is drawn below n is in range; lists that are put together stay short. Codes of bytes.
  Plain: the numbers of a source of draws, as they follow on each other: below 2^57 none comes twice in 2^57 steps, and not 655,360 draws in a row, four by four, are divisible by 3. No condition.
  The reference's damages of a text end, whatever the code, and the text stays short: out of the numbers that its source draws. Codes of bytes.
  The reference's draws of fields end, whatever the code: there is a drawn field, game, player, text. Codes of at most 4096 bytes.
-/
import Derived.Test.YtlmohkbimnhecaaGreatDoorQ1
import Derived.Test.YtlmohkbimnhecaaGreatDoorBase
import Derived.Test.YtlmohkbimnhecaaGreatDoorQ6
import Derived.Test.YtlmohkbimnhecaaGreatDoorField
import Derived.Test.YtlmohkbimnhecaaGreatDoorFieldUnion
import Derived.Test.YtlmohkbimnhecaaGreatDoorTexts
import Derived.Test.YtlmohkbimnhecaaGreatDoorQ2
import Derived.Test.YtlmohkbimnhecaaGreatDoorQ5

namespace Go.Proofs.YtlmohkbimnhecaaGreatDoor.B
open Go.RowKit Go.Proofs.YtlmohkbimnhecaaGreatDoor.Q Go.Proofs.YtlmohkbimnhecaaGreatDoorW.PrintWords Go.Proofs.YtlmohkbimnhecaaGreatDoorW.PrintLast Go.Proofs.YtlmohkbimnhecaaGreatDoorW.PrintMore

/-- With rounds enough there is a value, of which P holds. -/
def Tot {α : Type} (f : Nat → Option α) (P : α → Prop) : Prop := ∃ v, Ev f v ∧ P v
theorem Tot.bind {α β : Type} {f : Nat → Option α} {g : Nat → α → Option β} {P : α → Prop} {Q : β → Prop} (h : Tot f P) (h2 : ∀ v, P v → Tot (fun k => g k v) Q) : Tot (fun k => (f k).bind (g k)) Q := by
  obtain ⟨v, h1, hp⟩ := h
  obtain ⟨u, h3, hq⟩ := h2 v hp
  exact ⟨u, evB h1 h3, hq⟩
theorem Tot.val {α : Type} {v : α} {P : α → Prop} (h : P v) : Tot (fun _ => some v) P := ⟨v, evS v, h⟩
theorem Tot.yes {α : Type} {c : Prop} [Decidable c] {f g : Nat → Option α} {P : α → Prop} (hc : c) (h : Tot f P) : Tot (fun k => if c then f k else g k) P := by
  obtain ⟨v, h1, hp⟩ := h
  exact ⟨v, evT hc h1, hp⟩
theorem Tot.no {α : Type} {c : Prop} [Decidable c] {f g : Nat → Option α} {P : α → Prop} (hc : ¬ c) (h : Tot g P) : Tot (fun k => if c then f k else g k) P := by
  obtain ⟨v, h1, hp⟩ := h
  exact ⟨v, evF hc h1, hp⟩
theorem Tot.ite {α : Type} {c : Prop} [Decidable c] {f g : Nat → Option α} {P : α → Prop} (h1 : c → Tot f P) (h2 : ¬ c → Tot g P) : Tot (fun k => if c then f k else g k) P := by
  by_cases hc : c
  · exact Tot.yes hc (h1 hc)
  · exact Tot.no hc (h2 hc)
theorem Tot.succ {α : Type} {f g : Nat → Option α} {P : α → Prop} (he : ∀ k, f (k + 1) = g k) (h : Tot g P) : Tot f P := by
  obtain ⟨v, h1, hp⟩ := h
  exact ⟨v, evSucc he h1, hp⟩
theorem Tot.weaken {α : Type} {f : Nat → Option α} {P Q : α → Prop} (h : Tot f P) (hPQ : ∀ v, P v → Q v) : Tot f Q := by
  obtain ⟨v, h1, hp⟩ := h
  exact ⟨v, h1, hPQ v hp⟩
theorem Tot.const {α : Type} {o : Option α} {P : α → Prop} (h : ∃ v, o = some v ∧ P v) : Tot (fun _ => o) P := by
  obtain ⟨v, h1, hp⟩ := h
  exact ⟨v, evG h1 (evS v) |> fun _ => ⟨0, fun k _ => h1⟩, hp⟩
theorem u64_pos (x : Int) : 0 ≤ IntKind.u64.wrap x := by
  have : IntKind.u64.wrap x = x % 18446744073709551616 := by
    unfold IntKind.wrap
    simp [IntKind.bits, IntKind.signed]
  omega
/-- Whether a source's code is of bytes and its place is no negative number. -/
def OkC (cl : List Int) (at_ : Int) : Prop := (∀ x ∈ cl, 0 ≤ x ∧ x ≤ 255) ∧ 0 ≤ at_ ∧ cl.length ≤ 4611686018427387904 ∧ at_ ≤ cl.length
theorem u64_lt (x : Int) : IntKind.u64.wrap x < 18446744073709551616 := by
  have : IntKind.u64.wrap x = x % 18446744073709551616 := by
    unfold IntKind.wrap
    simp [IntKind.bits, IntKind.signed]
  omega
theorem mask24 (y : Int) (h0 : 0 ≤ y) (h1 : y < 18446744073709551616) : 0 ≤ Go.bits .and .u64 (y / 8589934592) 16777215 ∧ Go.bits .and .u64 (y / 8589934592) 16777215 ≤ 16777215 := by
  have k62 : (2 : Nat) ^ 62 = 4611686018427387904 := by decide
  have hq0 : 0 ≤ y / 8589934592 := by omega
  have hq1 : y / 8589934592 < 2147483648 := by omega
  obtain ⟨q, hq⟩ := Int.eq_ofNat_of_zero_le hq0
  rw [hq] at hq1 ⊢
  have e := (bits_nat .u64 62 (by decide) (fun n h0 h1 => by rw [show (2 : Int) ^ 62 = 4611686018427387904 by decide] at h1; exact u64_in n h0 (by omega)) q 16777215 (by omega) (by omega)).1
  have e2 : Go.bits .and .u64 (q : Int) 16777215 = ((q &&& 16777215 : Nat) : Int) := e
  rw [e2]
  have := Nat.and_le_right (n := q) (m := 16777215)
  omega
theorem rd_in {cl : List Int} (h : ∀ x ∈ cl, 0 ≤ x ∧ x ≤ 255) (i : Int) : 0 ≤ rd cl i ∧ rd cl i ≤ 255 := by
  unfold rd
  rw [List.getD_eq_getElem?_getD]
  cases e : cl[i.toNat]? with
  | none => simp
  | some x => exact h x (List.mem_of_getElem? e)
/-- What a draw leaves: a number in range, the source. -/
def Drew (cl : List Int) (n : Int) (v : Int × Int × Int) : Prop := OkC cl v.2.1 ∧ (1 ≤ n → 0 ≤ v.1 ∧ v.1 < n) ∧ (n < 1 → v.1 = 0)
theorem next_val (cl : List Int) (a h n : Int) (hc : OkC cl a) : ∃ v, spec_l01Next.f cl a h n = some v ∧ Drew cl n v := by
  obtain ⟨c1, c2, c3, c4⟩ := hc
  unfold spec_l01Next.f
  by_cases hn : n < 1
  · rw [if_pos hn]
    exact ⟨_, rfl, ⟨c1, c2, c3, c4⟩, fun h => by omega, fun _ => rfl⟩
  · rw [if_neg hn]
    obtain ⟨m0, m1⟩ := mask24 (IntKind.u64.wrap ((IntKind.u64.wrap (h * 6364136223846793005)) + 1442695040888963407)) (u64_pos _) (u64_lt _)
    generalize Go.bits .and .u64 ((IntKind.u64.wrap ((IntKind.u64.wrap (h * 6364136223846793005)) + 1442695040888963407)) / 8589934592) 16777215 = m at m0 m1 ⊢
    by_cases hl : a < (cl.length : Int)
    · obtain ⟨r0, r1⟩ := rd_in c1 a
      rw [if_pos hl, if_pos c2, if_neg (by omega), wrap_in (x := m) (by omega) (by omega), wrap_in (x := rd cl a) (by omega) (by omega), wrap_in (x := m + rd cl a) (by omega) (by omega), wrap_in (x := a + 1) (by omega) (by omega)]
      exact ⟨_, rfl, ⟨c1, by show 0 ≤ a + 1; omega, c3, by show a + 1 ≤ _; omega⟩, fun _ => ⟨Int.tmod_nonneg _ (by omega), Int.tmod_lt_of_pos _ (by omega)⟩, fun h => by omega⟩
    · rw [if_neg hl, if_neg (by omega), wrap_in (x := m) (by omega) (by omega)]
      exact ⟨_, rfl, ⟨c1, c2, c3, c4⟩, fun _ => ⟨Int.tmod_nonneg _ (by omega), Int.tmod_lt_of_pos _ (by omega)⟩, fun h => by omega⟩
theorem next_tot (cl : List Int) (a h n : Int) (hc : OkC cl a) : Tot (fun _ => spec_l01Next.f cl a h n) (Drew cl n) := Tot.const (next_val cl a h n hc)
theorem pick_tot (cl : List Int) (a h : Int) (l : List Int) (hl : l ≠ []) (hm : l.length ≤ 1000) (hc : OkC cl a) : Tot (fun _ => spec_l01Pick.f cl a h l) (fun v => OkC cl v.2.1 ∧ v.1 ∈ l) := by
  have h0 : 1 ≤ l.length := by
    cases l with
    | nil => exact absurd rfl hl
    | cons x l => simp
  refine Tot.const ?_
  unfold spec_l01Pick.f
  obtain ⟨v, h1, h2, h3, _⟩ := next_val cl a h (l.length : Int) hc
  obtain ⟨h4, h5⟩ := h3 (by omega)
  rw [h1, Option.bind_some, if_pos h4, if_pos h5]
  refine ⟨_, rfl, h2, ?_⟩
  show rd l v.1 ∈ l
  unfold rd
  rw [List.getD_eq_getElem?_getD, List.getElem?_eq_getElem (by omega)]
  exact List.getElem_mem _
theorem from_l (x cl : List Int) (_hx : x.length ≤ 4611686018427387904) (a : Int) (d : Nat) : ∀ (i h : Int), 0 ≤ i → (x.length : Int) = i + d → Tot (fun k => spec_l01From.l0 k x i cl a h) (fun v => v.1 = cl ∧ v.2.1 = a) := by
  induction d with
  | zero =>
    intro i h h0 hd
    exact Tot.succ (fun k => by rw [spec_l01From.l0]) (Tot.no (by omega) (Tot.val ⟨rfl, rfl⟩))
  | succ d ih =>
    intro i h h0 hd
    refine Tot.succ (fun k => by rw [spec_l01From.l0]) (Tot.yes (by omega) (Tot.ite (fun _ => Tot.yes h0 ?_) (fun _ => Tot.val ⟨rfl, rfl⟩)))
    rw [wrap_in (x := i + 1) (by omega) (by omega)]
    exact ih (i + 1) _ (by omega) (by omega)
theorem from_tot (cl : List Int) (hb : ∀ x ∈ cl, 0 ≤ x ∧ x ≤ 255) (hl : cl.length ≤ 4611686018427387904) : Tot (fun k => spec_l01From.f k cl) (fun v => v.1 = cl ∧ OkC cl v.2.1) := by
  unfold spec_l01From.f
  refine Tot.weaken (from_l cl cl hl 0 cl.length 0 _ (by omega) (by omega)) (fun v hv => ⟨hv.1, ?_⟩)
  rw [hv.2]
  exact ⟨hb, by omega, hl, by omega⟩
end Go.Proofs.YtlmohkbimnhecaaGreatDoor.B

namespace Go.Proofs.YtlmohkbimnhecaaGreatDoor.B

def cA : Nat := 6364136223846793005
def cC : Nat := 1442695040888963407
/-- The source's number, n steps on. -/
def it (h : Nat) : Nat → Nat
  | 0 => h
  | n + 1 => (it h n * cA + cC) % 18446744073709551616
/-- 1 + A + .. + A^(n-1). -/
def sm : Nat → Nat
  | 0 => 0
  | n + 1 => sm n * cA + 1
theorem sm_pow : ∀ n, cA ^ n = 1 + (cA - 1) * sm n
  | 0 => by simp [sm]
  | n + 1 => by
    rw [Nat.pow_succ, sm_pow n, sm]
    simp only [cA]
    omega
theorem sm_add (m : Nat) : ∀ n, sm (m + n) = sm m * cA ^ n + sm n
  | 0 => by simp [sm]
  | n + 1 => by
    rw [Nat.add_succ, sm, sm_add m n, sm, Nat.pow_succ, Nat.add_mul, Nat.mul_assoc]
    omega
theorem step_closed (h p s : Nat) : (p * h + cC * s) * cA + cC = p * cA * h + cC * (s * cA + 1) := by
  rw [Nat.add_mul, Nat.mul_add, Nat.mul_one, Nat.mul_assoc p h, Nat.mul_comm h, ← Nat.mul_assoc p, Nat.mul_assoc cC s, Nat.add_assoc]
theorem it_closed (h : Nat) : ∀ n, it h n % 18446744073709551616 = (cA ^ n * h + cC * sm n) % 18446744073709551616
  | 0 => by simp [it, sm]
  | n + 1 => by
    rw [it, Nat.mod_mod, Nat.add_mod, Nat.mul_mod, it_closed h n, ← Nat.mul_mod, ← Nat.add_mod]
    exact congrArg (· % 18446744073709551616) (step_closed h (cA ^ n) (sm n))
theorem it_add (h m : Nat) : ∀ n, it (it h m) n = it h (m + n)
  | 0 => rfl
  | n + 1 => by
    rw [it, it_add h m n]
    rfl
/-- n steps on, below 2^57. -/
theorem it_57 (h n : Nat) : it h n % 144115188075855872 = (h + sm n * ((cA - 1) * h + cC)) % 144115188075855872 := by
  have h1 : it h n % 18446744073709551616 % 144115188075855872 = (cA ^ n * h + cC * sm n) % 18446744073709551616 % 144115188075855872 := congrArg (· % 144115188075855872) (it_closed h n)
  rw [Nat.mod_mod_of_dvd _ (by decide), Nat.mod_mod_of_dvd _ (by decide)] at h1
  rw [h1, sm_pow n]
  refine congrArg (· % 144115188075855872) ?_
  rw [Nat.add_mul, Nat.one_mul, Nat.mul_add, Nat.mul_comm (cA - 1) (sm n), Nat.mul_assoc, Nat.mul_comm cC, Nat.add_assoc]
theorem it_par (h : Nat) : ∀ n, it h n % 2 = (h + n) % 2
  | 0 => rfl
  | n + 1 => by
    have := it_par h n
    rw [it, Nat.mod_mod_of_dvd _ (by decide)]
    simp only [cA, cC]
    omega
theorem pow_four : ∀ n, cA ^ n % 4 = 1
  | 0 => rfl
  | n + 1 => by
    rw [Nat.pow_succ, Nat.mul_mod, pow_four n]
    rfl
theorem sm_par : ∀ n, sm n % 2 = n % 2
  | 0 => rfl
  | n + 1 => by
    have := sm_par n
    rw [sm]
    simp only [cA]
    omega
theorem odd_of {x : Nat} (h : x % 2 = 1) (m : Nat) : Nat.Coprime (2 ^ m) x := by
  refine Nat.Coprime.pow_left m ?_
  unfold Nat.Coprime
  have h1 : Nat.gcd 2 x ∣ 2 := Nat.gcd_dvd_left ..
  have h2 : Nat.gcd 2 x ∣ x := Nat.gcd_dvd_right ..
  have h3 : Nat.gcd 2 x ≤ 2 := Nat.le_of_dvd (by decide) h1
  have h4 : Nat.gcd 2 x ≠ 0 := fun e => by rw [e] at h1; exact absurd h1 (by decide)
  have h5 : Nat.gcd 2 x ≠ 2 := fun e => by rw [e] at h2; omega
  omega
theorem sm_dvd : ∀ m n, 2 ^ m ∣ sm n → 2 ^ m ∣ n
  | 0, n, _ => by simp
  | m + 1, n, h => by
    have h2 : sm n % 2 = 0 := by
      obtain ⟨c, hc⟩ := h
      rw [hc, Nat.pow_succ, Nat.mul_comm (2 ^ m) 2, Nat.mul_assoc]
      omega
    have h3 := sm_par n
    obtain ⟨k, rfl⟩ : ∃ k, n = k + k := ⟨n / 2, by omega⟩
    have e : sm (k + k) = sm k * (1 + cA ^ k) := by rw [sm_add, Nat.mul_add]; omega
    have h4 := pow_four k
    obtain ⟨u, hu⟩ : ∃ u, 1 + cA ^ k = 2 * u := ⟨(1 + cA ^ k) / 2, by omega⟩
    have hodd : u % 2 = 1 := by omega
    rw [e, hu, Nat.pow_succ, ← Nat.mul_assoc, Nat.mul_comm (sm k) 2, Nat.mul_comm (2 ^ m) 2, Nat.mul_assoc] at h
    have h5 : 2 ^ m ∣ sm k * u := Nat.dvd_of_mul_dvd_mul_left (by decide) h
    have h6 : 2 ^ m ∣ sm k := Nat.Coprime.dvd_of_dvd_mul_right (odd_of hodd m) h5
    obtain ⟨c, hc⟩ := sm_dvd m k h6
    exact ⟨c, by rw [Nat.pow_succ, Nat.mul_comm (2 ^ m) 2, Nat.mul_assoc, ← hc]; omega⟩
theorem sm_two : ∀ k, ∃ u, u % 2 = 1 ∧ sm (2 ^ k) = 2 ^ k * u
  | 0 => ⟨1, rfl, by simp [sm]⟩
  | k + 1 => by
    obtain ⟨u, h1, h2⟩ := sm_two k
    have h4 := pow_four (2 ^ k)
    obtain ⟨v, hv⟩ : ∃ v, 1 + cA ^ 2 ^ k = 2 * v := ⟨(1 + cA ^ 2 ^ k) / 2, by omega⟩
    refine ⟨u * v, by rw [Nat.mul_mod, h1, show v % 2 = 1 by omega], ?_⟩
    rw [show 2 ^ (k + 1) = 2 ^ k + 2 ^ k by rw [Nat.pow_succ]; omega, sm_add, h2]
    have e : 2 ^ k * u * cA ^ 2 ^ k + 2 ^ k * u = 2 ^ k * u * (1 + cA ^ 2 ^ k) := by rw [Nat.mul_add]; omega
    rw [e, hv, ← Nat.two_mul, Nat.mul_assoc, Nat.mul_assoc, Nat.mul_left_comm u 2 v, Nat.mul_left_comm (2 ^ k) 2]
/-- Below 2^57 no number comes twice in 2^57 steps. -/
theorem it_apart (h a n : Nat) (hn : 0 < n) (hn2 : n < 144115188075855872) : it h a % 144115188075855872 ≠ it h (a + n) % 144115188075855872 := by
  intro e
  rw [← it_add, it_57 (it h a) n] at e
  have h1 : (144115188075855872 : Nat) ∣ sm n * ((cA - 1) * it h a + cC) := by
    generalize sm n * ((cA - 1) * it h a + cC) = z at e
    omega
  have hodd : ((cA - 1) * it h a + cC) % 2 = 1 := by
    simp only [cA, cC]
    omega
  have h2 : 2 ^ 57 ∣ sm n := Nat.Coprime.dvd_of_dvd_mul_right (odd_of hodd 57) h1
  have h3 := Nat.le_of_dvd hn (sm_dvd 57 n h2)
  have k57 : (2 : Nat) ^ 57 = 144115188075855872 := by decide
  omega
/-- No injection into fewer. -/
theorem pigeon : ∀ (m n : Nat) (f : Nat → Nat), (∀ i, i < n → f i < m) → (∀ i j, i < j → j < n → f i ≠ f j) → n ≤ m
  | 0, n, f, h, _ => by
    rcases Nat.eq_zero_or_pos n with e | e
    · omega
    · exact absurd (h 0 e) (by omega)
  | m + 1, 0, _, _, _ => by omega
  | m + 1, n + 1, f, h, hi => by
    have key : n ≤ m := by
      refine pigeon m n (fun i => if f i = m then f n else f i) (fun i hin => ?_) (fun i j hij hj => ?_)
      · have h1 := h i (by omega)
        have h2 := h n (by omega)
        have h3 := hi i n hin (by omega)
        show (if f i = m then f n else f i) < m
        split <;> omega
      · have h1 := hi i j hij (by omega)
        have h2 := hi i n (by omega) (by omega)
        have h3 := hi j n hj (by omega)
        show (if f i = m then f n else f i) ≠ (if f j = m then f n else f j)
        split <;> split <;> omega
    omega
/-- What is drawn of the source's number. -/
def xv (h : Nat) : Nat := h / 8589934592 % 16777216
theorem xv_57 (h : Nat) : xv h = h % 144115188075855872 / 8589934592 := by
  unfold xv
  omega
/-- Draws at places of one kind (even or odd) in 2^57 steps, each divisible by 3, are fewer than 2^55. -/
theorem few (h : Nat) (p : Nat → Nat) (r : Nat) (h0 : ∀ i, i < r → p i < p (i + 1)) (h2 : ∀ i, i < r → (p (i + 1) + p i) % 2 = 0) (h4 : ∀ i, i < r → p (i + 1) ≤ p i + 4) (hx : ∀ i, i < r → xv (it h (p i)) % 3 = 0) : r < 36028797018963968 := by
  by_cases hr : r < 36028797018963968
  · exact hr
  exfalso
  have lin : ∀ i, i ≤ r → p i ≤ p 0 + 4 * i ∧ (p i + p 0) % 2 = 0 := by
    intro i
    induction i with
    | zero => intro _; exact ⟨by omega, by omega⟩
    | succ i ih =>
      intro hi
      have a1 := ih (by omega)
      have a2 := h2 i (by omega)
      have a3 := h4 i (by omega)
      exact ⟨by omega, by omega⟩
  have inc : ∀ i j, i ≤ j → j ≤ r → p i + (j - i) ≤ p j := by
    intro i j hij
    induction j with
    | zero => intro _; obtain rfl : i = 0 := by omega
              omega
    | succ j ih =>
      intro hj
      have a3 := h0 j (by omega)
      by_cases e : i = j + 1
      · subst e; omega
      · have a1 := ih (by omega) (by omega)
        omega
  have := pigeon (5592406 * 4294967296) 36028797018963968 (fun i => (it h (p i) % 144115188075855872 / 8589934592 / 3) * 4294967296 + (it h (p i) % 8589934592) / 2)
    (fun i hi => by
      have a1 := hx i (by omega)
      rw [xv_57] at a1
      show (it h (p i) % 144115188075855872 / 8589934592 / 3) * 4294967296 + (it h (p i) % 8589934592) / 2 < _
      generalize it h (p i) = z at *
      omega)
    (fun i j hij hj => by
      have a1 := hx i (by omega)
      have a2 := hx j (by omega)
      rw [xv_57] at a1 a2
      obtain ⟨b1, b2⟩ := lin i (by omega)
      obtain ⟨c1, c2⟩ := lin j (by omega)
      have d1 := inc i j (by omega) (by omega)
      have d0 := inc 0 i (by omega) (by omega)
      have ha := it_apart h (p i) (p j - p i) (by omega) (by omega)
      rw [show p i + (p j - p i) = p j by omega] at ha
      have q1 := it_par h (p i)
      have q2 := it_par h (p j)
      show (it h (p i) % 144115188075855872 / 8589934592 / 3) * 4294967296 + (it h (p i) % 8589934592) / 2 ≠ (it h (p j) % 144115188075855872 / 8589934592 / 3) * 4294967296 + (it h (p j) % 8589934592) / 2
      generalize it h (p i) = z at *
      generalize it h (p j) = y at *
      omega)
  omega
def sqm : Nat → Nat
  | 0 => cA % 549755813888
  | j + 1 => sqm j * sqm j % 549755813888
theorem sqm_eq : ∀ j, cA ^ 2 ^ j % 549755813888 = sqm j
  | 0 => by rw [sqm, Nat.pow_zero, Nat.pow_one]
  | j + 1 => by rw [sqm, ← sqm_eq j, Nat.pow_succ 2, Nat.mul_two, Nat.pow_add, Nat.mul_mod]
/-- The stride: 2^18 steps. -/
theorem stride : ∃ N u : Nat, N = 262144 ∧ cA ^ N % 549755813888 = 400733241345 ∧ u % 2 = 1 ∧ sm N = 262144 * u := by
  obtain ⟨n, hn⟩ : ∃ n, n = 2 ^ 18 := ⟨_, rfl⟩
  obtain ⟨u, h1, h2⟩ := sm_two 18
  have h3 := sqm_eq 18
  rw [← hn] at h2 h3
  have hk : n = 262144 := by rw [hn]
  refine ⟨n, u, hk, ?_, h1, by rw [h2, hk]⟩
  rw [h3]
  decide +kernel
theorem gap_eq (z m : Nat) : ((cA - 1) * it z m + cC) % 144115188075855872 = (cA ^ m * ((cA - 1) * z + cC)) % 144115188075855872 := by
  rw [Nat.add_mod, Nat.mul_mod, it_57 z m, ← Nat.mul_mod, ← Nat.add_mod]
  refine congrArg (· % 144115188075855872) ?_
  rw [sm_pow m]
  generalize sm m = s
  generalize hB : cA - 1 = b
  rw [Nat.mul_add, Nat.add_mul, Nat.one_mul, Nat.mul_assoc b s, Nat.add_right_comm]
theorem gap_u (u z m : Nat) : (u * ((cA - 1) * it z m + cC)) % 1048576 = (cA ^ m * (u * ((cA - 1) * z + cC))) % 1048576 := by
  have e4 : ((cA - 1) * it z m + cC) % 144115188075855872 % 1048576 = (cA ^ m * ((cA - 1) * z + cC)) % 144115188075855872 % 1048576 := congrArg (· % 1048576) (gap_eq z m)
  rw [Nat.mod_mod_of_dvd _ (by decide), Nat.mod_mod_of_dvd _ (by decide)] at e4
  rw [Nat.mul_mod, e4, ← Nat.mul_mod, Nat.mul_left_comm]
theorem sec1 (a0 a1 a2 b0 b1 b2 k : Int) 
    (e : 16777216 * a0 + 3 * b0 + (16777216 * a2 + 3 * b2) = 2 * (16777216 * a1 + 3 * b1) + 3 * k) : 16777216 * (a0 + a2 - 2 * a1) = 3 * (2 * b1 + k - b0 - b2) := by
    rw [Int.mul_sub, Int.mul_add, Int.mul_left_comm 16777216 2]
    generalize 16777216 * a0 = x0 at e ⊢
    generalize 16777216 * a1 = x1 at e ⊢
    generalize 16777216 * a2 = x2 at e ⊢
    omega
theorem sec2 (z y : Int) (hz : 16777216 * z = 3 * y) : ∃ w, z = 3 * w := by
  refine ⟨y - 5592405 * z, ?_⟩
  omega
theorem sec3 (w y : Int) (hz : 16777216 * (3 * w) = 3 * y) : y = 16777216 * w := by
  omega
theorem sec4 (b0 b1 b2 k w : Int) (h1 : 8388608 ≤ 3 * k) (h2 : 3 * k < 16777216) (p0 : 0 ≤ b0) (p1 : 0 ≤ b1) (p2 : 0 ≤ b2) (c0 : 3 * b0 < 16777216) (c1 : 3 * b1 < 16777216) (c2 : 3 * b2 < 16777216)
  (h3 : 16777216 * w = 2 * b1 + k - b0 - b2) : b0 + b2 = 2 * b1 + k := by
  have h5 : w < 1 := by omega
  have h6 : -1 < w := by omega
  omega
theorem in_thirds (z : Nat) (hz : z % 16777216 % 3 = 0) : ∃ a b : Int, (z : Int) = 16777216 * a + 3 * b ∧ 0 ≤ b ∧ 3 * b < 16777216 := by
  have h1 := Nat.div_add_mod z 16777216
  have h2 : z % 16777216 < 16777216 := Nat.mod_lt _ (by decide)
  have h3 := Nat.div_add_mod (z % 16777216) 3
  generalize z % 16777216 = r at *
  rw [hz] at h3
  generalize r / 3 = b at *
  generalize z / 16777216 = a at *
  refine ⟨(a : Int), (b : Int), ?_, ?_, ?_⟩
  · omega
  · omega
  · omega
/-- A second difference of numbers divisible by 3. -/
theorem second (a0 a1 a2 b0 b1 b2 k : Int) (h1 : 8388608 ≤ 3 * k) (h2 : 3 * k < 16777216) (p0 : 0 ≤ b0) (p1 : 0 ≤ b1) (p2 : 0 ≤ b2) (c0 : 3 * b0 < 16777216) (c1 : 3 * b1 < 16777216) (c2 : 3 * b2 < 16777216)
    (e : 16777216 * a0 + 3 * b0 + (16777216 * a2 + 3 * b2) = 2 * (16777216 * a1 + 3 * b1) + 3 * k) : b0 + b2 = 2 * b1 + k := by
  have hz := sec1 a0 a1 a2 b0 b1 b2 k e
  obtain ⟨w, hw⟩ := sec2 _ _ hz
  rw [hw] at hz
  exact sec4 b0 b1 b2 k w h1 h2 p0 p1 p2 c0 c1 c2 (sec3 w _ hz).symm
theorem last_five (b0 b1 b2 b3 b4 k : Int) (h1 : 8388608 ≤ 3 * k) (d0 : b0 + b2 = 2 * b1 + k) (d1 : b1 + b3 = 2 * b2 + k) (d2 : b2 + b4 = 2 * b3 + k) (p2 : 0 ≤ b2) (c0 : 3 * b0 < 16777216) (c4 : 3 * b4 < 16777216) : False := by
  omega
theorem ar0 (X L k : Nat) : ((X : Nat) : Int) + ((X + 2 * L + 3 * k : Nat) : Int) = 2 * ((X + L : Nat) : Int) + 3 * (k : Int) := by omega
theorem ar1 (X L k : Nat) : ((X + L : Nat) : Int) + ((X + 3 * L + 3 * (3 * k) : Nat) : Int) = 2 * ((X + 2 * L + 3 * k : Nat) : Int) + 3 * (k : Int) := by omega
theorem ar2 (X L k : Nat) : ((X + 2 * L + 3 * k : Nat) : Int) + ((X + 4 * L + 6 * (3 * k) : Nat) : Int) = 2 * ((X + 3 * L + 3 * (3 * k) : Nat) : Int) + 3 * (k : Int) := by omega
/-- Five numbers with one second difference, all divisible by 3: there are none. -/
theorem five (X L K : Nat) (hK : K % 3 = 0) (h1 : 8388608 ≤ K) (h2 : K < 16777216) (y0 : X % 16777216 % 3 = 0) (y1 : (X + L) % 16777216 % 3 = 0) (y2 : (X + 2 * L + K) % 16777216 % 3 = 0) (y3 : (X + 3 * L + 3 * K) % 16777216 % 3 = 0) (y4 : (X + 4 * L + 6 * K) % 16777216 % 3 = 0) : False := by
  obtain ⟨k, rfl⟩ : ∃ k, K = 3 * k := by
    clear y0 y1 y2 y3 y4
    exact ⟨K / 3, by omega⟩
  have g1 : (8388608 : Int) ≤ 3 * (k : Int) := by
    clear y0 y1 y2 y3 y4
    omega
  have g2 : 3 * (k : Int) < 16777216 := by
    clear y0 y1 y2 y3 y4
    omega
  obtain ⟨a0, b0, e0, p0, c0⟩ := in_thirds _ y0
  obtain ⟨a1, b1, e1, p1, c1⟩ := in_thirds _ y1
  obtain ⟨a2, b2, e2, p2, c2⟩ := in_thirds _ y2
  obtain ⟨a3, b3, e3, p3, c3⟩ := in_thirds _ y3
  obtain ⟨a4, b4, e4, p4, c4⟩ := in_thirds _ y4
  clear y0 y1 y2 y3 y4 hK h1 h2
  have d0 := second a0 a1 a2 b0 b1 b2 k g1 g2 p0 p1 p2 c0 c1 c2 (by rw [← e0, ← e1, ← e2]; exact ar0 _ _ _)
  have d1 := second a1 a2 a3 b1 b2 b3 k g1 g2 p1 p2 p3 c1 c2 c3 (by rw [← e1, ← e2, ← e3]; exact ar1 _ _ _)
  have d2 := second a2 a3 a4 b2 b3 b4 k g1 g2 p2 p3 p4 c2 c3 c4 (by rw [← e2, ← e3, ← e4]; exact ar2 _ _ _)
  exact last_five b0 b1 b2 b3 b4 k g1 d0 d1 d2 p2 c0 c4
/-- The high digits, when the low ones do not run over. -/
theorem high (Y s : Nat) (hs : s < 8589934592) : (8589934592 * Y + s) % 144115188075855872 / 8589934592 = Y % 16777216 := by
  obtain ⟨q, y, hy, e⟩ : ∃ q y, y < 16777216 ∧ Y = 16777216 * q + y := ⟨Y / 16777216, Y % 16777216, by omega, by omega⟩
  subst e
  rw [show 8589934592 * (16777216 * q + y) + s = 8589934592 * y + s + 144115188075855872 * q by omega, Nat.add_mul_mod_self_left, Nat.mod_eq_of_lt (by omega), Nat.mul_add_mod_self_left, Nat.mod_eq_of_lt hy]
  omega
theorem spread (τ D G q m c kk x : Nat) (hx : m + c * 400733241344 = x + 549755813888 * kk) (hG : τ * 400733241344 = 1048576 * G + 549755813888 * q) : (τ + 1048576 * D) * x % 549755813888 = (τ * m + 1048576 * (D * m + c * G)) % 549755813888 := by
  have h : (τ + 1048576 * D) * (x + 549755813888 * kk) = τ * m + 1048576 * (D * m + c * G) + 549755813888 * (c * q + 764338 * (D * c)) := by
    rw [← hx]
    have e1 : τ * (c * 400733241344) = c * (1048576 * G + 549755813888 * q) := by rw [← hG, Nat.mul_left_comm]
    rw [Nat.add_mul, Nat.mul_add, e1, Nat.mul_assoc 1048576 D, Nat.mul_add D, ← Nat.mul_assoc D c 400733241344, Nat.mul_add c, Nat.mul_left_comm c 1048576, Nat.mul_left_comm c 549755813888]
    clear e1 hx hG
    generalize D * m = a
    generalize D * c = b
    generalize c * G = d
    generalize c * q = f
    generalize τ * m = s
    omega
  have h2 : (τ + 1048576 * D) * (x + 549755813888 * kk) = (τ + 1048576 * D) * x + 549755813888 * ((τ + 1048576 * D) * kk) := by rw [Nat.mul_add, Nat.mul_left_comm]
  have h3 := congrArg (· % 549755813888) (h2.symm.trans h)
  simp only [Nat.add_mul_mod_self_left] at h3
  exact h3
theorem place (g X s e t D G m c : Nat) (hX : g = 8589934592 * X + s) (hs : s + 262144 * (e * m) < 8589934592) : (g + 262144 * (((e + 32768 * t) * m + 1048576 * (D * m + c * G)) % 549755813888)) % 144115188075855872 / 8589934592 = (X + (t * m + 32 * (D * m + c * G))) % 16777216 := by
  have e1 : ∀ W : Nat, 262144 * (W % 549755813888) = (262144 * W) % 144115188075855872 := fun W => (Nat.mul_mod_mul_left 262144 W 549755813888).symm
  rw [e1, Nat.add_mod, Nat.mod_mod, ← Nat.add_mod, Nat.add_mul, Nat.mul_assoc 32768]
  generalize e * m = em at hs ⊢
  generalize t * m = tm
  generalize D * m + c * G = z
  rw [hX, show 8589934592 * X + s + 262144 * (em + 32768 * tm + 1048576 * z) = 8589934592 * (X + (tm + 32 * z)) + (s + 262144 * em) by clear e1 hX hs; omega]
  exact high _ _ hs
theorem mulN1 (N : Nat) : 1 * N = 0 + N := by omega
theorem mulN2 (N : Nat) : 2 * N = 0 + N + N := by omega
theorem mulN3 (N : Nat) : 3 * N = 0 + N + N + N := by omega
theorem mulN5 (N : Nat) : 5 * N = 0 + N + N + N + N + N := by omega
theorem low_form (g e t z : Nat) : (g % 144115188075855872 + 262144 * (((e + 32768 * t) * 5 + 1048576 * z) % 549755813888)) % 8589934592 = (g % 8589934592 + 1310720 * e) % 8589934592 := by
  have e1 : ∀ W : Nat, 262144 * (W % 549755813888) % 8589934592 = (262144 * W) % 8589934592 := fun W => by
    rw [show 262144 * (W % 549755813888) = (262144 * W) % 144115188075855872 from (Nat.mul_mod_mul_left 262144 W 549755813888).symm, Nat.mod_mod_of_dvd _ (by decide)]
  rw [Nat.add_mod, e1, Nat.mod_mod_of_dvd _ (by decide), ← Nat.add_mod]
  rw [show g + 262144 * ((e + 32768 * t) * 5 + 1048576 * z) = g + 1310720 * e + 8589934592 * (5 * t + 32 * z) by clear e1; omega, Nat.add_mul_mod_self_left, Nat.mod_add_mod]
theorem mulN4 (N : Nat) : 4 * N = 0 + N + N + N + N := by omega
theorem line1 (X t D G : Nat) : X + (t * 1 + 32 * (D * 1 + 0 * G)) = X + (t + 32 * D) := by omega
theorem line2 (X t D G : Nat) : X + (t * 2 + 32 * (D * 2 + 1 * G)) = X + 2 * (t + 32 * D) + 32 * G := by omega
theorem line3 (X t D G : Nat) : X + (t * 3 + 32 * (D * 3 + 3 * G)) = X + 3 * (t + 32 * D) + 3 * (32 * G) := by omega
theorem line4 (X t D G : Nat) : X + (t * 4 + 32 * (D * 4 + 6 * G)) = X + 4 * (t + 32 * D) + 6 * (32 * G) := by omega
section
variable {N u : Nat} (hb : cA ^ N % 549755813888 = 400733241345) (hu : sm N = 262144 * u)
include hb hu
theorem sm_next (n v x y : Nat) (h : sm n = 262144 * (u * v)) (hv : v % 549755813888 = x) (hy : (x * 400733241345 + 1) % 549755813888 = y) : ∃ v', sm (n + N) = 262144 * (u * v') ∧ v' % 549755813888 = y := by
  refine ⟨v * cA ^ N + 1, ?_, ?_⟩
  · rw [sm_add, h, hu, Nat.mul_assoc, Nat.mul_assoc, Nat.mul_add, Nat.mul_add, Nat.mul_one]
  · rw [Nat.add_mod, Nat.mul_mod, hb, hv, ← Nat.add_mod, hy]
omit hb hu in
theorem at_v (g n v x : Nat) (h : sm n = 262144 * (u * v)) (hv : v % 549755813888 = x) : it g n % 144115188075855872 = (g % 144115188075855872 + 262144 * ((u * ((cA - 1) * g + cC)) * x % 549755813888)) % 144115188075855872 := by
  rw [it_57, h]
  have e1 : 262144 * (u * v) * ((cA - 1) * g + cC) = 262144 * (u * ((cA - 1) * g + cC) * v) := by
    generalize (cA - 1) * g + cC = f
    rw [Nat.mul_assoc, Nat.mul_assoc, Nat.mul_right_comm, Nat.mul_assoc]
  rw [e1]
  generalize u * ((cA - 1) * g + cC) = E
  have e2 : (E * x) % 549755813888 = (E * v) % 549755813888 := by rw [← hv, Nat.mul_mod, Nat.mod_mod, ← Nat.mul_mod]
  rw [e2]
  have e3 : 262144 * (E * v % 549755813888) = (262144 * (E * v)) % 144115188075855872 := (Nat.mul_mod_mul_left 262144 (E * v) 549755813888).symm
  rw [e3, Nat.add_mod]
/-- Five places, a stride apart: one of the draws is not divisible by 3. -/
theorem window (g e t G : Nat) (hE : (u * ((cA - 1) * g + cC)) % 1048576 = e + 32768 * t) (hG : ((e + 32768 * t) * 400733241344) % 549755813888 = 1048576 * G) (hK : (32 * G) % 3 = 0) (h1 : 262144 ≤ G) (h2 : G < 524288) (hc : g % 8589934592 + 1048576 * e < 8589934592) :
    ∃ m, m < 5 ∧ xv (it g (m * N)) % 3 ≠ 0 := by
  obtain ⟨v1, s1, r1⟩ := sm_next hb hu 0 0 0 1 (by simp [sm]) (by decide) (by decide)
  obtain ⟨v2, s2, r2⟩ := sm_next hb hu _ _ _ 400733241346 s1 r1 (by decide)
  obtain ⟨v3, s3, r3⟩ := sm_next hb hu _ _ _ 102688096259 s2 r2 (by decide)
  obtain ⟨v4, s4, r4⟩ := sm_next hb hu _ _ _ 205376192516 s3 r3 (by decide)
  have p1 := at_v g _ _ _ s1 r1
  have p2 := at_v g _ _ _ s2 r2
  have p3 := at_v g _ _ _ s3 r3
  have p4 := at_v g _ _ _ s4 r4
  clear s1 s2 s3 s4 r1 r2 r3 r4 hb hu
  generalize u * ((cA - 1) * g + cC) = E at hE p1 p2 p3 p4
  obtain ⟨D, hD⟩ : ∃ D, E = (e + 32768 * t) + 1048576 * D := ⟨E / 1048576, by rw [← hE]; exact (Nat.mod_add_div E 1048576).symm⟩
  clear hE
  subst hD
  obtain ⟨q, hq⟩ : ∃ q, (e + 32768 * t) * 400733241344 = 1048576 * G + 549755813888 * q := ⟨(e + 32768 * t) * 400733241344 / 549755813888, by rw [← hG]; exact (Nat.mod_add_div _ _).symm⟩
  clear hG
  have hX : g % 144115188075855872 = 8589934592 * (g % 144115188075855872 / 8589934592) + g % 8589934592 := by
    have h := Nat.div_add_mod (g % 144115188075855872) 8589934592
    rw [Nat.mod_mod_of_dvd _ (by decide)] at h
    exact h.symm
  generalize g % 144115188075855872 / 8589934592 = X at hX
  generalize g % 8589934592 = s at hX hc
  have hh : ∀ m, m ≤ 4 → s + 262144 * (e * m) < 8589934592 := by
    clear p1 p2 p3 p4 hX hq hK h1 h2
    intro m hm
    have := Nat.mul_le_mul_left e hm
    generalize e * m = z at this ⊢
    omega
  rw [spread _ D G q 1 0 0 1 rfl hq] at p1
  rw [spread _ D G q 2 1 0 400733241346 rfl hq] at p2
  rw [spread _ D G q 3 3 2 102688096259 rfl hq] at p3
  rw [spread _ D G q 4 6 4 205376192516 rfl hq] at p4
  have y0 : xv (it g (0 * N)) = X % 16777216 := by
    rw [Nat.zero_mul, xv_57]
    show g % 144115188075855872 / 8589934592 = _
    rw [hX]
    have := high X s (by have := hh 0 (by decide); rwa [Nat.mul_zero, Nat.mul_zero, Nat.add_zero] at this)
    rw [← hX, Nat.mod_mod] at this
    rw [← hX]
    exact this
  have y1 : xv (it g (1 * N)) = (X + (t * 1 + 32 * (D * 1 + 0 * G))) % 16777216 := by
    rw [mulN1 N, xv_57, p1]
    exact place _ X s e t D G 1 0 hX (hh _ (by decide))
  have y2 : xv (it g (2 * N)) = (X + (t * 2 + 32 * (D * 2 + 1 * G))) % 16777216 := by
    rw [mulN2 N, xv_57, p2]
    exact place _ X s e t D G 2 1 hX (hh _ (by decide))
  have y3 : xv (it g (3 * N)) = (X + (t * 3 + 32 * (D * 3 + 3 * G))) % 16777216 := by
    rw [mulN3 N, xv_57, p3]
    exact place _ X s e t D G 3 3 hX (hh _ (by decide))
  have y4 : xv (it g (4 * N)) = (X + (t * 4 + 32 * (D * 4 + 6 * G))) % 16777216 := by
    rw [mulN4 N, xv_57, p4]
    exact place _ X s e t D G 4 6 hX (hh _ (by decide))
  clear p1 p2 p3 p4 hX hc hq
  rw [line1 X t D G] at y1
  rw [line2 X t D G] at y2
  rw [line3 X t D G] at y3
  rw [line4 X t D G] at y4
  by_cases k0 : xv (it g (0 * N)) % 3 = 0
  · by_cases k1 : xv (it g (1 * N)) % 3 = 0
    · by_cases k2 : xv (it g (2 * N)) % 3 = 0
      · by_cases k3 : xv (it g (3 * N)) % 3 = 0
        · by_cases k4 : xv (it g (4 * N)) % 3 = 0
          · rw [y0] at k0
            rw [y1] at k1
            rw [y2] at k2
            rw [y3] at k3
            rw [y4] at k4
            clear y0 y1 y2 y3 y4
            have g1 : 8388608 ≤ 32 * G := by clear k0 k1 k2 k3 k4; omega
            have g2 : 32 * G < 16777216 := by clear k0 k1 k2 k3 k4; omega
            exact (five X (t + 32 * D) (32 * G) hK g1 g2 k0 k1 k2 k3 k4).elim
          · exact ⟨4, by decide, k4⟩
        · exact ⟨3, by decide, k3⟩
      · exact ⟨2, by decide, k2⟩
    · exact ⟨1, by decide, k1⟩
  · exact ⟨0, by decide, k0⟩
/-- Five strides on, the low digits. -/
theorem shifted (g e t G : Nat) (hE : (u * ((cA - 1) * g + cC)) % 1048576 = e + 32768 * t) (hG : ((e + 32768 * t) * 400733241344) % 549755813888 = 1048576 * G) : it g (5 * N) % 8589934592 = (g % 8589934592 + 1310720 * e) % 8589934592 := by
  obtain ⟨v1, s1, r1⟩ := sm_next hb hu 0 0 0 1 (by simp [sm]) (by decide) (by decide)
  obtain ⟨v2, s2, r2⟩ := sm_next hb hu _ _ _ 400733241346 s1 r1 (by decide)
  obtain ⟨v3, s3, r3⟩ := sm_next hb hu _ _ _ 102688096259 s2 r2 (by decide)
  obtain ⟨v4, s4, r4⟩ := sm_next hb hu _ _ _ 205376192516 s3 r3 (by decide)
  obtain ⟨v5, s5, r5⟩ := sm_next hb hu _ _ _ 159041716229 s4 r4 (by decide)
  have p5 := at_v g _ _ _ s5 r5
  clear s1 s2 s3 s4 s5 r1 r2 r3 r4 r5 hb hu
  generalize u * ((cA - 1) * g + cC) = E at hE p5
  obtain ⟨D, hD⟩ : ∃ D, E = (e + 32768 * t) + 1048576 * D := ⟨E / 1048576, by rw [← hE]; exact (Nat.mod_add_div E 1048576).symm⟩
  clear hE
  subst hD
  obtain ⟨q, hq⟩ : ∃ q, (e + 32768 * t) * 400733241344 = 1048576 * G + 549755813888 * q := ⟨(e + 32768 * t) * 400733241344 / 549755813888, by rw [← hG]; exact (Nat.mod_add_div _ _).symm⟩
  clear hG
  rw [spread _ D G q 5 10 7 159041716229 rfl hq, ← mulN5] at p5
  have p : it g (5 * N) % 144115188075855872 % 8589934592 = (g % 144115188075855872 + 262144 * (((e + 32768 * t) * 5 + 1048576 * (D * 5 + 10 * G)) % 549755813888)) % 144115188075855872 % 8589934592 := congrArg (· % 8589934592) p5
  rw [Nat.mod_mod_of_dvd _ (by decide), Nat.mod_mod_of_dvd _ (by decide)] at p
  rw [p]
  clear p p5 hq
  exact low_form g e t (D * 5 + 10 * G)
end
/-- The eight kinds of strides. -/
theorem kinds (r : Nat) (h1 : r < 16) (h2 : r % 2 = 1) : ∃ t G, t < 31 ∧ ((r + 32768 * t) * 400733241344) % 549755813888 = 1048576 * G ∧ (32 * G) % 3 = 0 ∧ 262144 ≤ G ∧ G < 524288 := by
  have hr : r = 1 ∨ r = 3 ∨ r = 5 ∨ r = 7 ∨ r = 9 ∨ r = 11 ∨ r = 13 ∨ r = 15 := by omega
  rcases hr with rfl | rfl | rfl | rfl | rfl | rfl | rfl | rfl
  · exact ⟨2, 447705, by decide, by decide, by decide, by decide, by decide⟩
  · exact ⟨3, 458379, by decide, by decide, by decide, by decide, by decide⟩
  · exact ⟨4, 469053, by decide, by decide, by decide, by decide, by decide⟩
  · exact ⟨5, 479727, by decide, by decide, by decide, by decide, by decide⟩
  · exact ⟨0, 293793, by decide, by decide, by decide, by decide, by decide⟩
  · exact ⟨1, 304467, by decide, by decide, by decide, by decide, by decide⟩
  · exact ⟨2, 315141, by decide, by decide, by decide, by decide, by decide⟩
  · exact ⟨3, 325815, by decide, by decide, by decide, by decide, by decide⟩
theorem pow_form (m u : Nat) : 1 + (cA - 1) * (m * u) = 1 + m * 2 ^ 2 * (1591034055961698251 * u) := by
  have e : cA - 1 = 4 * 1591034055961698251 := by decide
  rw [e, show (2 : Nat) ^ 2 = 4 by decide, Nat.mul_comm m 4, Nat.mul_assoc 4 m, Nat.mul_assoc 4, Nat.mul_left_comm m]
theorem lift (z T y m : Nat) (hm : 0 < m) (h : z % m = T % m) (hy : y % 2 = 1) (hn : ¬ z % (2 * m) = T % (2 * m)) : (z + m * y) % (2 * m) = T % (2 * m) := by
  obtain ⟨k, rfl⟩ : ∃ k, y = 2 * k + 1 := ⟨y / 2, by omega⟩
  have e : z + m * (2 * k + 1) = z + m + 2 * m * k := by rw [Nat.mul_add, Nat.mul_one, Nat.mul_left_comm, ← Nat.mul_assoc]; omega
  rw [e, Nat.add_mul_mod_self_left, ← Nat.mod_add_mod]
  have a1 := Nat.mod_lt z (show 0 < 2 * m by omega)
  have a2 := Nat.mod_lt T (show 0 < 2 * m by omega)
  have b1 : z % (2 * m) % m = z % m := Nat.mod_mod_of_dvd _ ⟨2, by omega⟩
  have b2 : T % (2 * m) % m = T % m := Nat.mod_mod_of_dvd _ ⟨2, by omega⟩
  rw [h, ← b2] at b1
  clear e b2 h
  generalize z % (2 * m) = a at *
  generalize T % (2 * m) = c at *
  by_cases ha : a < m
  · rw [Nat.mod_eq_of_lt ha] at b1
    by_cases hc : c < m
    · rw [Nat.mod_eq_of_lt hc] at b1
      exact absurd b1 hn
    · rw [Nat.mod_eq_sub_mod (by omega), Nat.mod_eq_of_lt (by omega)] at b1
      rw [Nat.mod_eq_of_lt (by omega)]
      omega
  · rw [Nat.mod_eq_sub_mod (by omega), Nat.mod_eq_of_lt (by omega)] at b1
    rw [Nat.mod_eq_sub_mod (by omega), Nat.mod_eq_of_lt (by omega)]
    by_cases hc : c < m
    · rw [Nat.mod_eq_of_lt hc] at b1
      omega
    · rw [Nat.mod_eq_sub_mod (by omega), Nat.mod_eq_of_lt (by omega)] at b1
      omega
/-- Each number of a kind is met, below 2^20. -/
theorem met (E : Nat) (hE : E % 2 = 1) (T : Nat) (hT : T % 16 = E % 16) : ∀ j : Nat, j ≤ 16 → ∃ i, i < 2 ^ j ∧ (cA ^ (4 * i) * E) % 2 ^ (j + 4) = T % 2 ^ (j + 4) := by
  intro j
  induction j with
  | zero =>
    intro _
    exact ⟨0, by decide, by simpa using hT.symm⟩
  | succ j ih =>
    intro hj
    obtain ⟨i, h1, h2⟩ := ih (by omega)
    have hp : 2 ^ (j + 1 + 4) = 2 * 2 ^ (j + 4) := by rw [show j + 1 + 4 = (j + 4) + 1 by omega, Nat.pow_succ, Nat.mul_comm]
    have hodd : (cA ^ (4 * i) * E) % 2 = 1 := by
      have := pow_four (4 * i)
      rw [Nat.mul_mod, hE, show cA ^ (4 * i) % 2 = 1 by omega]
    obtain ⟨u, hu1, hu2⟩ := sm_two (j + 2)
    have hq : cA ^ 2 ^ (j + 2) = 1 + 2 ^ (j + 4) * (1591034055961698251 * u) := by
      rw [sm_pow, hu2, show j + 4 = (j + 2) + 2 by omega, Nat.pow_add 2 (j + 2) 2]
      exact pow_form _ _
    have hpos : 0 < 2 ^ (j + 4) := Nat.pow_pos (by decide)
    by_cases c : (cA ^ (4 * i) * E) % 2 ^ (j + 1 + 4) = T % 2 ^ (j + 1 + 4)
    · exact ⟨i, by rw [Nat.pow_succ]; omega, c⟩
    · refine ⟨i + 2 ^ j, by rw [Nat.pow_succ]; omega, ?_⟩
      have e : cA ^ (4 * (i + 2 ^ j)) * E = cA ^ (4 * i) * E + 2 ^ (j + 4) * (1591034055961698251 * u * (cA ^ (4 * i) * E)) := by
        rw [Nat.mul_add, Nat.pow_add, show 4 * 2 ^ j = 2 ^ (j + 2) by rw [Nat.pow_add]; omega, hq, Nat.mul_right_comm, Nat.mul_add, Nat.mul_one, Nat.mul_comm (cA ^ (4 * i) * E) (2 ^ (j + 4) * _), Nat.mul_assoc (2 ^ (j + 4))]
      rw [e]
      have hw : (1591034055961698251 * u * (cA ^ (4 * i) * E)) % 2 = 1 := by rw [Nat.mul_mod, Nat.mul_mod 1591034055961698251, hu1, hodd]
      clear e hq hodd hu2 hu1 ih hT hE
      generalize cA ^ (4 * i) * E = z at c h2 hw ⊢
      generalize 1591034055961698251 * u * z = y at hw ⊢
      rw [hp] at c ⊢
      generalize 2 ^ (j + 4) = m at c h2 hpos ⊢
      exact lift z T y m hpos h2 hw c
/-- Four by four steps on, not 655,360 draws in a row are divisible by 3. -/
theorem short (h q : Nat) : ∃ i, i < 655360 ∧ xv (it h (q + 4 * i)) % 3 ≠ 0 := by
  obtain ⟨N, u, hN, hb, hu1, hu⟩ := stride
  have hodd : ((cA - 1) * it h q + cC) % 2 = 1 := by
    generalize it h q = z
    simp only [cA, cC]
    omega
  have hE : (u * ((cA - 1) * it h q + cC)) % 2 = 1 := by rw [Nat.mul_mod, hu1, hodd]
  obtain ⟨r, hr⟩ : ∃ r, r = (u * ((cA - 1) * it h q + cC)) % 16 := ⟨_, rfl⟩
  have hr1 : r < 16 := by rw [hr]; exact Nat.mod_lt _ (by decide)
  have hr2 : r % 2 = 1 := by rw [hr, Nat.mod_mod_of_dvd _ (by decide)]; exact hE
  obtain ⟨t, G, ht, hG, hK, g1, g2⟩ := kinds r hr1 hr2
  obtain ⟨i, hi, he⟩ := met _ hE (r + 32768 * t) (by rw [← hr]; clear hr hG hK g1 g2 hE hodd hu hb; omega) 16 (Nat.le_refl _)
  have hi' : i < 65536 := hi
  have hT : (r + 32768 * t) % 1048576 = r + 32768 * t := Nat.mod_eq_of_lt (by clear hr hG hK g1 g2 hE hodd hu hb he; omega)
  have hEg : (u * ((cA - 1) * it h (q + 4 * i) + cC)) % 1048576 = r + 32768 * t := by
    rw [← it_add, gap_u, ← hT]
    exact he
  clear he hE hodd hr hi
  by_cases c : it h (q + 4 * i) % 8589934592 + 1048576 * r < 8589934592
  · obtain ⟨m, hm, hx⟩ := window hb hu _ r t G hEg hG hK g1 g2 c
    refine ⟨i + m * 65536, by omega, ?_⟩
    rw [show q + 4 * (i + m * 65536) = (q + 4 * i) + m * N by rw [hN]; omega, ← it_add]
    exact hx
  · have hs := shifted hb hu _ r t G hEg hG
    have hEs : (u * ((cA - 1) * it (it h (q + 4 * i)) (5 * N) + cC)) % 1048576 = r + 32768 * t := by
      rw [gap_u, Nat.mul_mod, hEg]
      have hp : cA ^ (5 * N) % 1048576 = 1 := by
        have h1 : cA ^ N % 1048576 = 1 := by
          have : cA ^ N % 549755813888 % 1048576 = 400733241345 % 1048576 := congrArg (· % 1048576) hb
          rwa [Nat.mod_mod_of_dvd _ (by decide)] at this
        rw [Nat.mul_comm, Nat.pow_mul, Nat.pow_mod, h1]
      rw [hp, Nat.one_mul, hT]
    have c2 : it (it h (q + 4 * i)) (5 * N) % 8589934592 + 1048576 * r < 8589934592 := by
      rw [hs]
      have hl : it h (q + 4 * i) % 8589934592 < 8589934592 := Nat.mod_lt _ (by decide)
      generalize it h (q + 4 * i) % 8589934592 = z at c hl ⊢
      have : (z + 1310720 * r) % 8589934592 = z + 1310720 * r - 8589934592 := by
        rw [Nat.mod_eq_sub_mod (by clear hs hEs hEg hG hK g1 g2 hb hu; omega), Nat.mod_eq_of_lt (by clear hs hEs hEg hG hK g1 g2 hb hu; omega)]
      rw [this]
      clear this hs hEs hEg hG hK g1 g2 hb hu
      omega
    obtain ⟨m, hm, hx⟩ := window hb hu _ r t G hEs hG hK g1 g2 c2
    refine ⟨i + (5 + m) * 65536, by omega, ?_⟩
    rw [show q + 4 * (i + (5 + m) * 65536) = (q + 4 * i) + (5 * N + m * N) by rw [hN]; omega, ← it_add, ← it_add]
    exact hx
/-- What has been drawn so far: r rounds, each passed; the source stands at a; the text has n letters. -/
def Hist (h n0 r a n : Nat) : Prop := ∃ p : Nat → Nat, ∃ s, p r = a ∧ s ≤ r ∧ (∀ i, i < r → p i < p (i + 1) ∧ (p (i + 1) + p i) % 2 = 0 ∧ p (i + 1) ≤ p i + 4 ∧ xv (it h (p i + 1)) % 3 = 0) ∧ (∀ i, s ≤ i → i ≤ r → p i = p s + 4 * (i - s)) ∧ n ≤ n0 + (r - s)
theorem Hist.start (h n0 n : Nat) (hn : n ≤ n0) : Hist h n0 0 0 n := ⟨fun _ => 0, 0, rfl, Nat.le_refl _, fun i hi => absurd hi (Nat.not_lt_zero _), fun i _ hi => by show (0 : Nat) = 0 + 4 * (i - 0); omega, by omega⟩
theorem Hist.four {h n0 r a n : Nat} (H : Hist h n0 r a n) (hx : xv (it h (a + 1)) % 3 = 0) (m : Nat) (hm : m ≤ n + 1) : Hist h n0 (r + 1) (a + 4) m := by
  obtain ⟨p, s, h1, h2, h3, h4, h5⟩ := H
  refine ⟨fun i => if i ≤ r then p i else a + 4, s, if_neg (by omega), by omega, fun i hi => ?_, fun i hi hr => ?_, by omega⟩
  · by_cases c : i < r
    · simp only [if_pos (show i ≤ r by omega), if_pos (show i + 1 ≤ r by omega)]
      exact h3 i c
    · obtain rfl : i = r := by omega
      simp only [if_pos (Nat.le_refl i), if_neg (show ¬ i + 1 ≤ i by omega)]
      rw [h1]
      exact ⟨by omega, by omega, by omega, hx⟩
  · simp only [if_pos h2]
    by_cases c : i ≤ r
    · rw [if_pos c]
      exact h4 i hi c
    · have := h4 r h2 (Nat.le_refl _)
      rw [if_neg c]
      omega
theorem Hist.two {h n0 r a n : Nat} (H : Hist h n0 r a n) (hx : xv (it h (a + 1)) % 3 = 0) (m : Nat) (hm : m ≤ n0) : Hist h n0 (r + 1) (a + 2) m := by
  obtain ⟨p, s, h1, h2, h3, h4, h5⟩ := H
  refine ⟨fun i => if i ≤ r then p i else a + 2, r + 1, if_neg (by omega), Nat.le_refl _, fun i hi => ?_, fun i hi hr => ?_, by omega⟩
  · by_cases c : i < r
    · simp only [if_pos (show i ≤ r by omega), if_pos (show i + 1 ≤ r by omega)]
      exact h3 i c
    · obtain rfl : i = r := by omega
      simp only [if_pos (Nat.le_refl i), if_neg (show ¬ i + 1 ≤ i by omega)]
      rw [h1]
      exact ⟨by omega, by omega, by omega, hx⟩
  · obtain rfl : i = r + 1 := by omega
    simp
theorem Hist.few {h n0 r a n : Nat} (H : Hist h n0 r a n) : r < 36028797018963968 := by
  obtain ⟨p, s, h1, h2, h3, h4, h5⟩ := H
  exact B.few h (fun i => p i + 1) r (fun i hi => by have := (h3 i hi).1; show p i + 1 < p (i + 1) + 1; omega) (fun i hi => by have := (h3 i hi).2.1; show (p (i + 1) + 1 + (p i + 1)) % 2 = 0; omega) (fun i hi => by have := (h3 i hi).2.2.1; show p (i + 1) + 1 ≤ p i + 1 + 4; omega) (fun i hi => (h3 i hi).2.2.2)
theorem Hist.small {h n0 r a n : Nat} (H : Hist h n0 r a n) : n ≤ n0 + 655360 := by
  obtain ⟨p, s, h1, h2, h3, h4, h5⟩ := H
  by_cases c : r - s ≤ 655360
  · omega
  · obtain ⟨i, hi, hx⟩ := short h (p s + 1)
    have e := h4 (s + i) (by omega) (by omega)
    have hz := (h3 (s + i) (by omega)).2.2.2
    rw [e, show p s + 4 * (s + i - s) + 1 = p s + 1 + 4 * i by omega] at hz
    exact absurd hz hx
end Go.Proofs.YtlmohkbimnhecaaGreatDoor.B

namespace Go.Proofs.YtlmohkbimnhecaaGreatDoor.B
open Go.RowKit Go.Proofs.YtlmohkbimnhecaaGreatDoor.Q Go.Proofs.YtlmohkbimnhecaaGreatDoorW.PrintWords Go.Proofs.YtlmohkbimnhecaaGreatDoorW.PrintLast Go.Proofs.YtlmohkbimnhecaaGreatDoorW.PrintMore

theorem u64_mod (x : Int) : IntKind.u64.wrap x = x % 18446744073709551616 := by
  unfold IntKind.wrap
  simp [IntKind.bits, IntKind.signed]
theorem hash_eq (h : Int) : IntKind.u64.wrap ((IntKind.u64.wrap (h * 6364136223846793005)) + 1442695040888963407) = ((it (h % 18446744073709551616).toNat 1 : Nat) : Int) := by
  rw [u64_mod, u64_mod]
  show _ = ((((h % 18446744073709551616).toNat * cA + cC) % 18446744073709551616 : Nat) : Int)
  rw [Int.natCast_emod, Int.natCast_add, Int.natCast_mul, Int.toNat_of_nonneg (Int.emod_nonneg _ (by decide))]
  show _ = (h % 18446744073709551616 * 6364136223846793005 + 1442695040888963407) % 18446744073709551616
  rw [Int.emod_add_emod]
  omega
theorem mask_eq (z : Nat) (h : z < 18446744073709551616) : Go.bits .and .u64 ((z : Int) / 8589934592) 16777215 = ((xv z : Nat) : Int) := by
  have k62 : (2 : Nat) ^ 62 = 4611686018427387904 := by decide
  have hq1 : z / 8589934592 < 2147483648 := by omega
  rw [show (z : Int) / 8589934592 = ((z / 8589934592 : Nat) : Int) from rfl]
  have e := (bits_nat .u64 62 (by decide) (fun n h0 h1 => by rw [show (2 : Int) ^ 62 = 4611686018427387904 by decide] at h1; exact u64_in n h0 (by omega)) (z / 8589934592) 16777215 (by omega) (by omega)).1
  have e2 : Go.bits .and .u64 ((z / 8589934592 : Nat) : Int) 16777215 = ((z / 8589934592 &&& 16777215 : Nat) : Int) := e
  rw [e2]
  have e3 : z / 8589934592 &&& 16777215 = z / 8589934592 % 16777216 := Nat.and_two_pow_sub_one_eq_mod (z / 8589934592) 24
  rw [e3]
  rfl
theorem it_lt (h n : Nat) : it h (n + 1) < 18446744073709551616 := Nat.mod_lt _ (by decide)
/-- A draw behind the code's end. -/
theorem next_late (cl : List Int) (a : Int) (h n : Int) (ha : ¬ a < (cl.length : Int)) (hn : 1 ≤ n) : spec_l01Next.f cl a h n = some (Int.tmod ((xv (it (h % 18446744073709551616).toNat 1) : Nat) : Int) n, a, ((it (h % 18446744073709551616).toNat 1 : Nat) : Int)) := by
  unfold spec_l01Next.f
  have hlt : it (h % 18446744073709551616).toNat 1 < 18446744073709551616 := it_lt _ 0
  rw [if_neg (by omega), if_neg ha, if_neg (by omega), hash_eq, mask_eq _ hlt]
  have hx : xv (it (h % 18446744073709551616).toNat 1) < 16777216 := Nat.mod_lt _ (by decide)
  rw [wrap_in (by omega) (by omega)]
theorem mod_self (h : Nat) (n : Nat) : (((it h (n + 1) : Nat) : Int) % 18446744073709551616).toNat = it h (n + 1) := by
  have := it_lt h n
  omega
/-- A draw ahead of the code's end. -/
theorem next_early (cl : List Int) (a h n : Int) (hc : OkC cl a) (ha : a < (cl.length : Int)) (hn : 1 ≤ n) : ∃ v, spec_l01Next.f cl a h n = some v ∧ OkC cl v.2.1 ∧ v.2.1 = a + 1 ∧ 0 ≤ v.1 ∧ v.1 < n := by
  obtain ⟨v, h1, h2, h3, _⟩ := next_val cl a h n hc
  obtain ⟨h4, h5⟩ := h3 hn
  refine ⟨v, h1, h2, ?_, h4, h5⟩
  obtain ⟨c1, c2, c3, c4⟩ := hc
  unfold spec_l01Next.f at h1
  rw [if_neg (by omega), if_pos ha, if_pos c2, if_neg (by omega)] at h1
  have := congrArg (fun o => o.map (fun z : Int × Int × Int => z.2.1)) h1
  simp only [Option.map_some, Option.some.injEq] at this
  rw [← this]
  exact wrap_in (by omega) (by omega)
/-- Any draw: the place goes on, or the code is over. -/
theorem next_any (cl : List Int) (a h n : Int) (hc : OkC cl a) (hn : 1 ≤ n) : ∃ v, spec_l01Next.f cl a h n = some v ∧ OkC cl v.2.1 ∧ a ≤ v.2.1 ∧ (a < cl.length → v.2.1 = a + 1) ∧ 0 ≤ v.1 ∧ v.1 < n := by
  by_cases ha : a < (cl.length : Int)
  · obtain ⟨v, h1, h2, h3, h4, h5⟩ := next_early cl a h n hc ha hn
    exact ⟨v, h1, h2, by omega, fun _ => h3, h4, h5⟩
  · obtain ⟨v, h1, h2, h3, _⟩ := next_val cl a h n hc
    obtain ⟨h4, h5⟩ := h3 hn
    have e := next_late cl a h n ha hn
    rw [h1] at e
    have e2 : v.2.1 = a := by rw [Option.some.inj e]
    exact ⟨v, h1, h2, by omega, fun z => absurd z ha, h4, h5⟩
def signs : List ByteArray := [(⟨#[48]⟩ : ByteArray), (⟨#[49]⟩ : ByteArray), (⟨#[50]⟩ : ByteArray), (⟨#[57]⟩ : ByteArray), (⟨#[44]⟩ : ByteArray), (⟨#[46]⟩ : ByteArray), (⟨#[45]⟩ : ByteArray), (⟨#[32]⟩ : ByteArray), (⟨#[120]⟩ : ByteArray), (⟨#[10]⟩ : ByteArray)]
theorem signs_one (i : Int) (h0 : 0 ≤ i) (h1 : i < 10) : (rdOf ByteArray.empty signs i).size = 1 := by
  have h : i = 0 ∨ i = 1 ∨ i = 2 ∨ i = 3 ∨ i = 4 ∨ i = 5 ∨ i = 6 ∨ i = 7 ∨ i = 8 ∨ i = 9 := by omega
  rcases h with rfl | rfl | rfl | rfl | rfl | rfl | rfl | rfl | rfl | rfl <;> rfl
/-- What a damage leaves, told by its draws. -/
theorem damage_val (cl : List Int) (a h : Int) (t : ByteArray) (ht : t.size ≤ 1000000000) (b1 : Int × Int × Int) (h1 : spec_l01Next.f cl a h 10 = some b1) (r0 : 0 ≤ b1.1) (r1 : b1.1 < 10) :
    (t.size = 0 → ∃ s, spec_l01Damage.f cl a h t = some (s, b1.2.1, b1.2.2) ∧ s.size = 1) ∧
    (0 < t.size → ∀ b2 : Int × Int × Int, spec_l01Next.f cl b1.2.1 b1.2.2 (t.size : Int) = some b2 → 0 ≤ b2.1 → b2.1 < (t.size : Int) → ∀ b3 : Int × Int × Int, spec_l01Next.f cl b2.2.1 b2.2.2 3 = some b3 → ∃ s, spec_l01Damage.f cl a h t = some (s, b3.2.1, b3.2.2) ∧ s.size ≤ t.size + 1) := by
  have hs := signs_one b1.1 r0 r1
  have r1' : b1.1 < (signs.length : Int) := r1
  unfold signs at r1'
  refine ⟨fun h0 => ?_, fun h0 b2 h2 q0 q1 b3 h3 => ?_⟩
  · refine ⟨rdOf ByteArray.empty signs b1.1, ?_, hs⟩
    unfold spec_l01Damage.f
    rw [Option.bind_some]
    show ((spec_l01Next.f cl a h 10).bind fun bt550 => _) = _
    rw [h1, Option.bind_some, if_pos r0, if_pos r1', if_pos (by omega)]
    rfl
  · unfold spec_l01Damage.f
    rw [Option.bind_some]
    show ∃ s, ((spec_l01Next.f cl a h 10).bind fun bt550 => _) = _ ∧ _
    rw [h1, Option.bind_some, if_pos r0, if_pos r1', if_neg (by omega), h2, Option.bind_some, h3, Option.bind_some]
    have hw : wrap64 (b2.1 + 1) = b2.1 + 1 := wrap_in (by omega) (by omega)
    have hs' : (rdOf ByteArray.empty (signs) b1.1).size = 1 := hs
    unfold signs at hs'
    generalize rdOf ByteArray.empty [(⟨#[48]⟩ : ByteArray), (⟨#[49]⟩ : ByteArray), (⟨#[50]⟩ : ByteArray), (⟨#[57]⟩ : ByteArray), (⟨#[44]⟩ : ByteArray), (⟨#[46]⟩ : ByteArray), (⟨#[45]⟩ : ByteArray), (⟨#[32]⟩ : ByteArray), (⟨#[120]⟩ : ByteArray), (⟨#[10]⟩ : ByteArray)] b1.1 = c at hs' ⊢
    have z1 : (t.extract 0 b2.1.toNat).size ≤ b2.1.toNat := by rw [ByteArray.size_extract]; omega
    have z2 : (t.extract (b2.1 + 1).toNat t.size).size = t.size - (b2.1 + 1).toNat := by rw [ByteArray.size_extract]; omega
    have z3 : (t.extract b2.1.toNat t.size).size = t.size - b2.1.toNat := by rw [ByteArray.size_extract]; omega
    rw [hw]
    by_cases e0 : b3.1 = 0
    · rw [if_pos e0, if_pos q0, if_pos (by omega), if_pos (by omega), if_pos (by omega), if_pos (by omega), if_pos (by rw [ByteArray.size_append]; omega)]
      exact ⟨_, rfl, by rw [ByteArray.size_append, ByteArray.size_append]; omega⟩
    · rw [if_neg e0]
      by_cases e1 : b3.1 = 1
      · rw [if_pos e1, if_pos q0, if_pos (by omega), if_pos (by omega), if_pos (by omega), if_pos (by omega)]
        exact ⟨_, rfl, by rw [ByteArray.size_append]; omega⟩
      · rw [if_neg e1, if_pos q0, if_pos (by omega), if_pos (by omega), if_pos (by rw [ByteArray.size_append]; omega)]
        exact ⟨_, rfl, by rw [ByteArray.size_append, ByteArray.size_append]; omega⟩
section
variable {F : Nat → ByteArray → List Int → Int → Int → Option ByteArray} (hF : ∀ k t cl a h, F (k + 1) t cl a h = (spec_l01Next.f cl a h 3).bind fun b => if b.1 = 0 then (spec_l01Damage.f cl b.2.1 b.2.2 t).bind fun d => F k d.1 cl d.2.1 d.2.2 else some t)
include hF
/-- Behind the code's end. -/
theorem late_tot (cl : List Int) (a : Int) (ha : ¬ a < (cl.length : Int)) (h n0 : Nat) (hn : 1 ≤ n0) (hn2 : n0 ≤ 1000000) (d : Nat) : ∀ (r pos : Nat) (t : ByteArray) (z : Int), Hist h n0 r pos t.size → (z % 18446744073709551616).toNat = it h pos → r + d = 36028797018963968 → Tot (fun k => F k t cl a z) (fun s => s.size ≤ n0 + 655360) := by
  induction d with
  | zero =>
    intro r pos t z H _ hr
    have := H.few
    omega
  | succ d ih =>
    intro r pos t z H hz hr
    have hsm := H.small
    refine Tot.succ (fun k => hF k t cl a z) ?_
    rw [next_late cl a z 3 ha (by decide), hz]
    refine Tot.bind (P := fun v => v = (Int.tmod ((xv (it (it h pos) 1) : Nat) : Int) 3, a, ((it (it h pos) 1 : Nat) : Int))) (Tot.val rfl) ?_
    rintro v rfl
    simp only
    rw [it_add h pos 1]
    by_cases hx : xv (it h (pos + 1)) % 3 = 0
    · refine Tot.yes (by show Int.tmod ((xv (it h (pos + 1)) : Nat) : Int) 3 = 0; rw [Int.tmod_eq_emod_of_nonneg (by omega)]; omega) ?_
      have e1 := next_late cl a ((it h (pos + 1) : Nat) : Int) 10 ha (by decide)
      rw [mod_self, it_add] at e1
      have b1 : 0 ≤ Int.tmod ((xv (it h (pos + 1 + 1)) : Nat) : Int) 10 := Int.tmod_nonneg _ (by omega)
      have b2 : Int.tmod ((xv (it h (pos + 1 + 1)) : Nat) : Int) 10 < 10 := Int.tmod_lt_of_pos _ (by decide)
      obtain ⟨v1, v2⟩ := damage_val cl a ((it h (pos + 1) : Nat) : Int) t (by omega) _ e1 b1 b2
      simp only at v1 v2
      by_cases h0 : t.size = 0
      · obtain ⟨s, hs1, hs2⟩ := v1 h0
        rw [hs1]
        refine Tot.bind (P := fun v => v = (s, a, ((it h (pos + 1 + 1) : Nat) : Int))) (Tot.val rfl) ?_
        rintro v rfl
        exact ih (r + 1) (pos + 2) s _ (H.two hx _ (by omega)) (mod_self h (pos + 1)) (by omega)
      · have hpos : 0 < t.size := by omega
        have e2 := next_late cl a ((it h (pos + 1 + 1) : Nat) : Int) (t.size : Int) ha (by omega)
        rw [mod_self, it_add] at e2
        have e3 := next_late cl a ((it h (pos + 1 + 1 + 1) : Nat) : Int) 3 ha (by decide)
        rw [mod_self, it_add] at e3
        have w1 : 0 ≤ Int.tmod ((xv (it h (pos + 1 + 1 + 1)) : Nat) : Int) (t.size : Int) := Int.tmod_nonneg _ (by omega)
        have w2 : Int.tmod ((xv (it h (pos + 1 + 1 + 1)) : Nat) : Int) (t.size : Int) < (t.size : Int) := Int.tmod_lt_of_pos _ (by omega)
        obtain ⟨s, hs1, hs2⟩ := v2 hpos _ e2 w1 w2 _ e3
        simp only at hs1
        rw [hs1]
        refine Tot.bind (P := fun v => v = (s, a, ((it h (pos + 1 + 1 + 1 + 1) : Nat) : Int))) (Tot.val rfl) ?_
        rintro v rfl
        exact ih (r + 1) (pos + 4) s _ (H.four hx _ hs2) (mod_self h (pos + 1 + 1 + 1)) (by omega)
    · exact Tot.no (by show ¬ Int.tmod ((xv (it h (pos + 1)) : Nat) : Int) 3 = 0; rw [Int.tmod_eq_emod_of_nonneg (by omega)]; omega) (Tot.val hsm)
/-- From anywhere. -/
theorem early_tot (cl : List Int) (d : Nat) : ∀ (a h : Int) (t : ByteArray), OkC cl a → a + d = cl.length → t.size + d ≤ 300000 → Tot (fun k => F k t cl a h) (fun s => s.size ≤ 1000000) := by
  induction d using Nat.strongRecOn with
  | _ d ih =>
    intro a h t hc hd ht
    by_cases ha : a < (cl.length : Int)
    · refine Tot.succ (fun k => hF k t cl a h) ?_
      obtain ⟨v, e1, o1, p1, q1, n1, m1⟩ := next_any cl a h 3 hc (by decide)
      rw [e1]
      refine Tot.bind (P := fun x => x = v) (Tot.val rfl) ?_
      rintro x rfl
      refine Tot.ite (fun _ => ?_) (fun _ => Tot.val (by omega))
      have q1' := q1 ha
      obtain ⟨b1, e2, o2, p2, q2, n2, m2⟩ := next_any cl x.2.1 x.2.2 10 o1 (by decide)
      obtain ⟨v1, v2⟩ := damage_val cl x.2.1 x.2.2 t (by omega) b1 e2 n2 m2
      by_cases h0 : t.size = 0
      · obtain ⟨s, hs1, hs2⟩ := v1 h0
        rw [hs1]
        refine Tot.bind (P := fun v => v = (s, b1.2.1, b1.2.2)) (Tot.val rfl) ?_
        rintro v rfl
        have o5 := o2.2.2.2
        exact ih ((cl.length : Int) - b1.2.1).toNat (by omega) b1.2.1 b1.2.2 s o2 (by omega) (by omega)
      · obtain ⟨b2, e3, o3, p3, q3, n3, m3⟩ := next_any cl b1.2.1 b1.2.2 (t.size : Int) o2 (by omega)
        obtain ⟨b3, e4, o4, p4, q4, n4, m4⟩ := next_any cl b2.2.1 b2.2.2 3 o3 (by decide)
        obtain ⟨s, hs1, hs2⟩ := v2 (by omega) b2 e3 n3 m3 b3 e4
        rw [hs1]
        refine Tot.bind (P := fun v => v = (s, b3.2.1, b3.2.2)) (Tot.val rfl) ?_
        rintro v rfl
        have o5 := o4.2.2.2
        exact ih ((cl.length : Int) - b3.2.1).toNat (by omega) b3.2.1 b3.2.2 s o4 (by omega) (by omega)
    · refine Tot.weaken (late_tot hF cl a ha (h % 18446744073709551616).toNat 300000 (by decide) (by decide) 36028797018963968 0 0 t h (Hist.start _ _ _ (by omega)) rfl (by omega)) (fun s hs => by omega)
end
end Go.Proofs.YtlmohkbimnhecaaGreatDoor.B

namespace Go.Proofs.YtlmohkbimnhecaaGreatDoor.B
open Go.RowKit Go.Proofs.YtlmohkbimnhecaaGreatDoor.Q Go.Proofs.YtlmohkbimnhecaaGreatDoorW.PrintWords Go.Proofs.YtlmohkbimnhecaaGreatDoorW.PrintLast Go.Proofs.YtlmohkbimnhecaaGreatDoorW.PrintMore

/-- Sets of a field of n points, that need not be apart. -/
def Sets (n : Nat) (R B : Int) : Prop := ∃ a b : Nat, R = a ∧ B = b ∧ a < 2 ^ n ∧ b < 2 ^ n
theorem Sets.small {n : Nat} {R B : Int} (h : Sets n R B) (hn : n ≤ 8) : (0 ≤ R ∧ R < 4611686018427387904) ∧ (0 ≤ B ∧ B < 4611686018427387904) := by
  obtain ⟨a, b, rfl, rfl, h1, h2⟩ := h
  have h3 : (2 : Nat) ^ n ≤ 2 ^ 8 := Nat.pow_le_pow_right (by decide) hn
  have k8 : (2 : Nat) ^ 8 = 256 := by decide
  rw [k8] at h3
  generalize (2 : Nat) ^ n = m at h1 h2 h3
  omega
theorem set_on {n : Nat} (x : Nat) (i : Int) (hx : x < 2 ^ n) (hn : n ≤ 8) (h0 : 0 ≤ i) (h1 : i < n) : ∃ y : Nat, Go.bits .or .i64 (x : Int) (shl .i64 1 i) = y ∧ y < 2 ^ n := by
  obtain ⟨j, rfl⟩ := Int.eq_ofNat_of_zero_le h0
  have hx2 : x < 2 ^ 61 := Nat.lt_of_lt_of_le hx (Nat.pow_le_pow_right (by decide) (by omega))
  refine ⟨x ||| 2 ^ j, or_step x j hx2 (by omega), Nat.or_lt_two_pow hx (Nat.pow_lt_pow_right (by decide) (by omega))⟩
theorem set_off {n : Nat} (x : Nat) (i : Int) (hx : x < 2 ^ n) (hn : n ≤ 8) (h0 : 0 ≤ i) (h1 : i < n) : ∃ y : Nat, Go.bits .andNot .i64 (x : Int) (shl .i64 1 i) = y ∧ y < 2 ^ n := by
  obtain ⟨j, rfl⟩ := Int.eq_ofNat_of_zero_le h0
  have hj : (2 : Nat) ^ j < 2 ^ n := Nat.pow_lt_pow_right (by decide) (by omega)
  have k8 : (2 : Nat) ^ n ≤ 2 ^ 8 := Nat.pow_le_pow_right (by decide) hn
  have k62 : (2 : Nat) ^ 8 < 2 ^ 62 := by decide
  refine ⟨x ^^^ (x &&& 2 ^ j), ?_, Nat.xor_lt_two_pow hx (Nat.and_lt_two_pow x hj)⟩
  rw [shl_nat j (by omega)]
  exact andNot_nat x (2 ^ j) (Nat.lt_trans (Nat.lt_of_lt_of_le hx k8) k62) (Nat.lt_trans (Nat.lt_of_lt_of_le hj k8) k62)
/-- A field that is drawn, and the source. -/
def FP (cl : List Int) (n : Int) (v : Int × Int × Int × Int × Int × Int) : Prop := v.1 = n ∧ Sets n.toNat v.2.2.1 v.2.2.2.1 ∧ OkC cl v.2.2.2.2.1
theorem draw_end (cl : List Int) (n g x10 a h L R B : Int) (hn : 1 ≤ n ∧ n ≤ 8) (hx : ¬ x10 > 0) (hs : Sets n.toNat R B) (hc : OkC cl a) : Tot (fun k => spec_l05Draw.l1 k n g x10 cl a h n L R B) (FP cl n) := by
  refine Tot.succ (fun k => by rw [spec_l05Draw.l1]) (Tot.no hx (Tot.bind (next_tot cl a h 10 hc) (fun v hv => Tot.ite (fun _ => Tot.bind (next_tot cl _ _ n hv.1) (fun u hu => ?_)) (fun _ => Tot.val ⟨rfl, hs, hv.1⟩))))
  obtain ⟨p1, p2⟩ := hu.2.1 (by omega)
  obtain ⟨x, y, rfl, rfl, h1, h2⟩ := hs
  obtain ⟨x', e1, e2⟩ := set_off x u.1 h1 (by omega) p1 (by omega)
  obtain ⟨y', e3, e4⟩ := set_on y u.1 h2 (by omega) p1 (by omega)
  rw [u64_at u.1 p1 (by omega)]
  exact Tot.yes p1 (Tot.val ⟨rfl, ⟨x', y', e1, e3, e2, e4⟩, hu.1⟩)
theorem mem_rd (l : List Int) (i : Int) (h0 : 0 ≤ i) (h1 : i < l.length) : rd l i ∈ l := by
  unfold rd
  rw [List.getD_eq_getElem?_getD, List.getElem?_eq_getElem (by omega)]
  exact List.getElem_mem _
theorem draw_moves (cl : List Int) (n g : Int) (hn : 1 ≤ n ∧ n ≤ 8) (d : Nat) : ∀ (x10 a h L R B : Int), x10 = d → d ≤ 10 → Sets n.toNat R B → OkC cl a → Tot (fun k => spec_l05Draw.l1 k n g x10 cl a h n L R B) (FP cl n) := by
  induction d with
  | zero =>
    intro x10 a h L R B hd _ hs hc
    exact draw_end cl n g x10 a h L R B hn (by omega) hs hc
  | succ d ih =>
    intro x10 a h L R B hd hd2 hs hc
    have hw : wrap64 (x10 - 1) = x10 - 1 := wrap_in (by omega) (by omega)
    obtain ⟨z1, z2⟩ := hs.small (by omega)
    refine Tot.succ (fun k => by rw [spec_l05Draw.l1, hw]) (Tot.yes (by omega) (Tot.bind (P := fun l => l = ptsL n L R B g (Int.tmod x10 2)) ⟨_, points_spec n L R B g (Int.tmod x10 2) hn z1 z2, rfl⟩ ?_))
    rintro l rfl
    refine Tot.ite (fun hl => Tot.bind (next_tot cl a h _ hc) (fun v hv => ?_)) (fun _ => ih (x10 - 1) a h L R B (by omega) (by omega) hs hc)
    obtain ⟨p1, p2⟩ := hv.2.1 (by omega)
    have hm := mem_rd _ v.1 p1 p2
    generalize rd (ptsL n L R B g (Int.tmod x10 2)) v.1 = i at hm ⊢
    unfold ptsL at hm
    have hi := (mem_seg _ _ _).1 (List.mem_filter.1 hm).1
    refine Tot.yes p1 (Tot.yes p2 (Tot.bind (P := fun u => u = (n, L, mvR R (Int.tmod x10 2) i, mvB B (Int.tmod x10 2) i)) (Tot.const ⟨_, move_spec n L R B (Int.tmod x10 2) i (by omega) (by omega), rfl⟩) ?_))
    rintro u rfl
    refine ih (x10 - 1) _ _ L _ _ (by omega) (by omega) ?_ hv.1
    obtain ⟨x, y, rfl, rfl, h1, h2⟩ := hs
    unfold mvR mvB
    by_cases c : Int.tmod x10 2 = 0
    · rw [if_pos c, if_pos c]
      obtain ⟨x', e1, e2⟩ := set_on x i h1 (by omega) (by omega) (by omega)
      exact ⟨x', y, e1, rfl, e2, h2⟩
    · rw [if_neg c, if_neg c]
      obtain ⟨y', e1, e2⟩ := set_on y i h2 (by omega) (by omega) (by omega)
      exact ⟨x, y', rfl, e1, h1, e2⟩
theorem draw_lines (cl : List Int) (n g few : Int) (hn : 1 ≤ n ∧ n ≤ 8) (d : Nat) : ∀ (e a h L : Int), 0 ≤ e → trI n = e + d → OkC cl a → Tot (fun k => spec_l05Draw.l0 k n g few e cl a h n L 0 0) (FP cl n) := by
  have hT := trI_range n (by omega) (by omega)
  induction d with
  | zero =>
    intro e a h L h0 hd hc
    refine Tot.succ (fun k => by rw [spec_l05Draw.l0, show wrap64 (Int.tdiv (wrap64 (n * (wrap64 (n - 1)))) 2) = trI n from rfl]) (Tot.no (by omega) (Tot.bind (next_tot cl a h 4 hc) (fun v hv => ?_)))
    obtain ⟨p1, p2⟩ := hv.2.1 (by omega)
    exact draw_moves cl n g hn v.1.toNat v.1 _ _ L 0 0 (by omega) (by omega) ⟨0, 0, rfl, rfl, Nat.pow_pos (by decide), Nat.pow_pos (by decide)⟩ hv.1
  | succ d ih =>
    intro e a h L h0 hd hc
    have hw : wrap64 (e + 1) = e + 1 := wrap_in (by omega) (by omega)
    refine Tot.succ (fun k => by rw [spec_l05Draw.l0, hw, show wrap64 (Int.tdiv (wrap64 (n * (wrap64 (n - 1)))) 2) = trI n from rfl]) (Tot.yes (by omega) (Tot.bind (next_tot cl a h few hc) (fun v hv => Tot.ite (fun _ => Tot.yes (u64_pos _) (ih (e + 1) _ _ _ (by omega) (by omega) hv.1)) (fun _ => ih (e + 1) _ _ _ (by omega) (by omega) hv.1))))
theorem draw_tot (cl : List Int) (a h n g : Int) (hn : 1 ≤ n ∧ n ≤ 8) (hc : OkC cl a) : Tot (fun k => spec_l05Draw.f k cl a h n g) (FP cl n) := by
  unfold spec_l05Draw.f
  have hT := trI_range n (by omega) (by omega)
  exact Tot.bind (pick_tot cl a h [2, 3, 3, 5] (by simp) (by simp) hc) (fun v hv => draw_lines cl n g v.1 hn (trI n).toNat 0 _ _ 0 (by omega) (by omega) hv.1)
/-- A field of 1 to 8 points. -/
def FQ (cl : List Int) (v : Int × Int × Int × Int × Int × Int) : Prop := (1 ≤ v.1 ∧ v.1 ≤ 8) ∧ Sets v.1.toNat v.2.2.1 v.2.2.2.1 ∧ OkC cl v.2.2.2.2.1
theorem both_sets {n : Nat} {R B R' B' : Int} (h : Sets n R B) (h' : Sets n R' B') (hn : n ≤ 4) : Sets (n + n) (Go.bits .or .i64 R (shl .i64 R' (n : Int))) (Go.bits .or .i64 B (shl .i64 B' (n : Int))) := by
  obtain ⟨a, b, rfl, rfl, h1, h2⟩ := h
  obtain ⟨c, d, rfl, rfl, h3, h4⟩ := h'
  have k8 : (2 : Nat) ^ n ≤ 2 ^ 4 := Nat.pow_le_pow_right (by decide) hn
  have k16 : (2 : Nat) ^ 4 = 16 := by decide
  have k62 : (2 : Nat) ^ (n + n) ≤ 2 ^ 8 := Nat.pow_le_pow_right (by decide) (by omega)
  have kk : (2 : Nat) ^ 8 < 2 ^ 62 := by decide
  have g1 := put_lt a c n n h1 h3
  have g2 := put_lt b d n n h2 h4
  have ka : a < 2 ^ 62 := Nat.lt_trans (Nat.lt_of_lt_of_le h1 k8) (by decide)
  have kb : b < 2 ^ 62 := Nat.lt_trans (Nat.lt_of_lt_of_le h2 k8) (by decide)
  refine ⟨a ||| c <<< n, b ||| d <<< n, ?_, ?_, g1, g2⟩
  · rw [shl_up8 c n (by omega) (by omega)]
    exact or_nat a _ ka (Nat.lt_of_le_of_lt Nat.right_le_or (Nat.lt_of_lt_of_le g1 (Nat.le_trans k62 (Nat.le_of_lt kk))))
  · rw [shl_up8 d n (by omega) (by omega)]
    exact or_nat b _ kb (Nat.lt_of_le_of_lt Nat.right_le_or (Nat.lt_of_lt_of_le g2 (Nat.le_trans k62 (Nat.le_of_lt kk))))
theorem twice_tot (cl : List Int) (a h g : Int) (hc : OkC cl a) : Tot (fun k => spec_l05Twice.f k cl a h g) (FQ cl) := by
  unfold spec_l05Twice.f
  refine Tot.bind (next_tot cl a h 4 hc) (fun v hv => ?_)
  obtain ⟨p1, p2⟩ := hv.2.1 (by omega)
  rw [wrap_in (x := 1 + v.1) (by omega) (by omega)]
  refine Tot.bind (draw_tot cl _ _ (1 + v.1) g (by omega) hv.1) ?_
  rintro ⟨P, L, R, B, a2, h2⟩ ⟨e1, e2, e3⟩
  simp only at e1 e2 e3 ⊢
  subst e1
  refine Tot.bind (P := fun u => u = _) ⟨_, union_spec (1 + v.1) L R B (1 + v.1) L B R (by omega) (by omega), rfl⟩ ?_
  rintro u rfl
  refine Tot.val ⟨by show 1 ≤ 1 + v.1 + (1 + v.1) ∧ 1 + v.1 + (1 + v.1) ≤ 8; omega, ?_, e3⟩
  obtain ⟨n, hn⟩ := Int.eq_ofNat_of_zero_le (show 0 ≤ 1 + v.1 by omega)
  have e4 : Sets n R B := by rw [hn] at e2; exact e2
  have e5 : Sets n B R := by
    obtain ⟨x, y, z1, z2, z3, z4⟩ := e4
    exact ⟨y, x, z2, z1, z4, z3⟩
  have := both_sets e4 e5 (by omega)
  show Sets (1 + v.1 + (1 + v.1)).toNat (Go.bits .or .i64 R (shl .i64 B (1 + v.1))) (Go.bits .or .i64 B (shl .i64 R (1 + v.1)))
  rw [hn, show ((n : Int) + (n : Int)).toNat = n + n by omega]
  exact this
/-- A field, a game, a player. -/
def FW (cl : List Int) (v : Int × Int × Int × Int × Int × Int × Int × Int) : Prop := (1 ≤ v.1 ∧ v.1 ≤ 8) ∧ Sets v.1.toNat v.2.2.1 v.2.2.2.1 ∧ OkC cl v.2.2.2.2.2.2.1
theorem with_end (cl : List Int) (g p a h P L R B : Int) (hP : 1 ≤ P ∧ P ≤ 8) (hs : Sets P.toNat R B) (hc : OkC cl a) : Tot (fun k => spec_l05With.j0 k g p cl a h P L R B) (FW cl) :=
  Tot.succ (fun k => by rw [spec_l05With.j0]) (Tot.bind (next_tot cl a h 30 hc) (fun v hv => Tot.ite (fun _ => Tot.bind (pick_tot cl _ _ [(-1), 2] (by simp) (by simp) hv.1) (fun u hu => Tot.val ⟨hP, hs, hu.1⟩)) (fun _ => Tot.ite (fun _ => Tot.bind (pick_tot cl _ _ [(-1), 2] (by simp) (by simp) hv.1) (fun u hu => Tot.val ⟨hP, hs, hu.1⟩)) (fun _ => Tot.val ⟨hP, hs, hv.1⟩))))
theorem with_tot (cl : List Int) (a h : Int) (hc : OkC cl a) : Tot (fun k => spec_l05With.f k cl a h) (FW cl) := by
  unfold spec_l05With.f
  refine Tot.bind (next_tot cl a h 2 hc) (fun v1 q1 => Tot.bind (next_tot cl _ _ 2 q1.1) (fun v2 q2 => Tot.bind (pick_tot cl _ _ [4, 6, 7] (by simp) (by simp) q2.1) (fun v3 q3 => Tot.bind (next_tot cl _ _ v3.1 q3.1) (fun v4 q4 => ?_))))
  have hm : v3.1 = 4 ∨ v3.1 = 6 ∨ v3.1 = 7 := by simpa using q3.2
  obtain ⟨p1, p2⟩ := q4.2.1 (by omega)
  rw [wrap_in (x := 1 + v4.1) (by omega) (by omega)]
  refine Tot.bind (draw_tot cl _ _ (1 + v4.1) v1.1 (by omega) q4.1) (fun v5 q5 => Tot.bind (next_tot cl _ _ 5 q5.2.2) (fun v6 q6 => Tot.ite (fun _ => Tot.bind (twice_tot cl _ _ v1.1 q6.1) (fun v7 q7 => with_end cl _ _ _ _ _ _ _ _ q7.1 q7.2.1 q7.2.2)) (fun _ => with_end cl _ _ _ _ _ _ _ _ (by rw [q5.1]; omega) (by have := q5.2.1; rwa [q5.1]) q6.1)))
theorem near_tot (cl : List Int) (a h m : Int) (hc : OkC cl a) : Tot (fun _ => spec_l01Near.f cl a h m) (fun v => OkC cl v.2.1) := by
  unfold spec_l01Near.f
  exact Tot.bind (next_tot cl a h 14 hc) (fun v hv => Tot.ite (fun _ => Tot.bind (pick_tot cl _ _ _ (by simp) (by simp) hv.1) (fun u hu => Tot.val hu.1)) (fun _ => Tot.bind (next_tot cl _ _ _ hv.1) (fun u hu => Tot.val hu.1)))
theorem bad_tot (cl : List Int) (a h P L R B : Int) (hc : OkC cl a) : Tot (fun _ => spec_l05Bad.f cl a h P L R B) (fun v => OkC cl v.2.2.2.2.1) := by
  unfold spec_l05Bad.f
  exact Tot.bind (next_tot cl a h 40 hc) (fun v hv => Tot.ite (fun _ => Tot.bind (pick_tot cl _ _ _ (by simp) (by simp) hv.1) (fun u hu => Tot.val hu.1)) (fun _ => Tot.ite (fun _ => Tot.bind (pick_tot cl _ _ _ (by simp) (by simp) hv.1) (fun u hu => Tot.val hu.1)) (fun _ => Tot.ite (fun _ => Tot.bind (pick_tot cl _ _ _ (by simp) (by simp) hv.1) (fun u hu => Tot.val hu.1)) (fun _ => Tot.ite (fun _ => Tot.bind (pick_tot cl _ _ _ (by simp) (by simp) hv.1) (fun u hu => Tot.val hu.1)) (fun _ => Tot.val hv.1)))))
section
variable (cl : List Int) (hb : ∀ x ∈ cl, 0 ≤ x ∧ x ≤ 255) (hl : cl.length ≤ 4096)
include hb hl
theorem given_tot : Tot (fun k => spec_l05Given.f k cl) (fun _ => True) := by
  unfold spec_l05Given.f
  refine Tot.bind (from_tot cl hb (by omega)) (fun s hs => ?_)
  rw [hs.1]
  exact Tot.bind (with_tot cl _ _ hs.2) (fun v hv => Tot.bind (bad_tot cl _ _ _ _ _ _ hv.2.2) (fun _ _ => Tot.val trivial))
theorem drawColour_tot : Tot (fun k => spec_DrawColourPoint.f k cl) (fun _ => True) := by
  unfold spec_DrawColourPoint.f
  refine Tot.bind (from_tot cl hb (by omega)) (fun s hs => ?_)
  rw [hs.1]
  exact Tot.bind (with_tot cl _ _ hs.2) (fun v hv => Tot.bind (near_tot cl _ _ _ hv.2.2) (fun u hu => Tot.bind (bad_tot cl _ _ _ _ _ _ hu) (fun _ _ => Tot.val trivial)))
theorem drawUnion_tot : Tot (fun k => spec_DrawUnionOf.f k cl) (fun _ => True) := by
  unfold spec_DrawUnionOf.f
  refine Tot.bind (from_tot cl hb (by omega)) (fun s hs => ?_)
  rw [hs.1]
  refine Tot.bind (next_tot cl _ _ 5 hs.2) (fun v1 q1 => Tot.bind (next_tot cl _ _ 2 q1.1) (fun v2 q2 => ?_))
  obtain ⟨p1, p2⟩ := q1.2.1 (by omega)
  rw [wrap_in (x := 1 + v1.1) (by omega) (by omega)]
  refine Tot.bind (draw_tot cl _ _ (1 + v1.1) v2.1 (by omega) q2.1) (fun v3 q3 => Tot.bind (next_tot cl _ _ 4 q3.2.2) (fun v4 q4 => Tot.bind (next_tot cl _ _ 2 q4.1) (fun v5 q5 => ?_)))
  obtain ⟨p3, p4⟩ := q4.2.1 (by omega)
  rw [wrap_in (x := 1 + v4.1) (by omega) (by omega)]
  exact Tot.bind (draw_tot cl _ _ (1 + v4.1) v5.1 (by omega) q5.1) (fun v6 q6 => Tot.bind (bad_tot cl _ _ _ _ _ _ q6.2.2) (fun v7 q7 => Tot.bind (bad_tot cl _ _ _ _ _ _ q7) (fun _ _ => Tot.val trivial)))
theorem drawExchange_tot : Tot (fun k => spec_DrawExchangeSides.f k cl) (fun _ => True) := by
  unfold spec_DrawExchangeSides.f
  exact Tot.bind (given_tot cl hb hl) (fun _ _ => Tot.val trivial)
theorem drawFair_tot : Tot (fun k => spec_DrawIsFairField.f k cl) (fun _ => True) := by
  unfold spec_DrawIsFairField.f
  exact Tot.bind (given_tot cl hb hl) (fun _ _ => Tot.val trivial)
theorem drawJoined_tot : Tot (fun k => spec_DrawAreJoined.f k cl) (fun _ => True) := by
  unfold spec_DrawAreJoined.f
  refine Tot.bind (from_tot cl hb (by omega)) (fun s hs => ?_)
  rw [hs.1]
  exact Tot.bind (with_tot cl _ _ hs.2) (fun v hv => Tot.bind (near_tot cl _ _ _ hv.2.2) (fun u hu => Tot.bind (near_tot cl _ _ _ hu) (fun z hz => Tot.bind (bad_tot cl _ _ _ _ _ _ hz) (fun _ _ => Tot.val trivial))))
theorem drawParse_tot : Tot (fun k => spec_DrawParseField.f k cl) (fun t => t.size ≤ 1000000) := by
  unfold spec_DrawParseField.f
  refine Tot.bind (from_tot cl hb (by omega)) (fun s hs => ?_)
  rw [hs.1]
  refine Tot.bind (with_tot cl _ _ hs.2) ?_
  rintro ⟨P, L, R, B, g, p, a, h⟩ ⟨e1, e2, e3⟩
  simp only at e1 e2 e3 ⊢
  obtain ⟨x, y, rfl, rfl, h1, h2⟩ := e2
  have k8 : (2 : Nat) ^ P.toNat ≤ 2 ^ 8 := Nat.pow_le_pow_right (by decide) (by omega)
  have kk : (2 : Nat) ^ 8 < 2 ^ 62 := by decide
  have hlen := textT_len P.toNat L x y (by omega)
  refine Tot.bind (P := fun t => t = BA (textT P.toNat L x y)) ⟨_, form_small (L := L) e1 ⟨Nat.lt_trans (Nat.lt_of_lt_of_le h1 k8) kk, Nat.lt_trans (Nat.lt_of_lt_of_le h2 k8) kk⟩, rfl⟩ ?_
  rintro t rfl
  have o4 := e3.2.2.2
  have o2 := e3.2.1
  exact early_tot (F := spec_DrawParseField.l0) (fun k t cl a h => by rw [spec_DrawParseField.l0]) cl ((cl.length : Int) - a).toNat a h _ e3 (by omega) (by rw [BA_size]; omega)
end
end Go.Proofs.YtlmohkbimnhecaaGreatDoor.B
