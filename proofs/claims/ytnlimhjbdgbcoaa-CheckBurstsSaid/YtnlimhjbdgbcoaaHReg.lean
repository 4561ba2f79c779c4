/- What the printed functions on registers come to, in the words of the mathematics. -/
import Derived.Test.YtnlimhjbdgbcoaaHBytes
import Derived.Test.YtnlimhjbdgbcoaaHCrc
import Derived.Test.YtnlimhjbdgbcoaaQf21
import Derived.Test.YtnlimhjbdgbcoaaQf10
import Derived.Test.YtnlimhjbdgbcoaaQf15
import Derived.Test.YtnlimhjbdgbcoaaQf12
import Derived.Test.YtnlimhjbdgbcoaaQf16
namespace Go.Proofs.Ytnlimhjbdgbcoaa.Q
open Go.RowKit Go.Proofs.YtnlimhjbdgbcoaaW.PrintWords Go.Proofs.YtnlimhjbdgbcoaaW.PrintLast Go.Proofs.YtnlimhjbdgbcoaaW.PrintMore Go.Proofs.Ytnlimhjbdgbcoaa.Crc
set_option linter.unusedVariables false
set_option linter.unusedSimpArgs false

theorem pow32 : (4294967296 : Nat) = 2 ^ 32 := rfl

theorem through_l0 (d : Nat) : ∀ (k : Nat) (i : Int) (r : Nat), r < 4294967296 → 0 ≤ i → i + d = 8 → d < k → check_through.l0 k (r : Int) i = some ((sK d r : Nat) : Int) := by
  induction d with
  | zero =>
    intro k i r hr h0 hi hk
    obtain ⟨k, rfl⟩ : ∃ m, k = m + 1 := ⟨k - 1, by omega⟩
    simp only [check_through.l0]
    rw [if_neg (by omega)]
    rfl
  | succ d ih =>
    intro k i r hr h0 hi hk
    obtain ⟨k, rfl⟩ : ∃ m, k = m + 1 := ⟨k - 1, by omega⟩
    simp only [check_through.l0]
    rw [if_pos (by omega), and1_u32 r hr, wrap_up h0 (by omega)]
    have hn := ih k (i + 1) (sN r) (sN_lt r hr) (by omega) (by omega) (by omega)
    unfold sN at hn
    by_cases h1 : r % 2 = 1
    · rw [if_pos (by omega)]
      rw [if_pos h1] at hn
      have e : (r : Int) / 2 = ((r / 2 : Nat) : Int) := by omega
      have e2 : (2197175160 : Int) = ((2197175160 : Nat) : Int) := rfl
      rw [e, e2, xor_u32 _ _ (by omega) (by omega)]
      rw [hn]
      simp only [sK, sN, if_pos h1]
    · rw [if_neg (by omega)]
      rw [if_neg h1] at hn
      have e : (r : Int) / 2 = ((r / 2 : Nat) : Int) := by omega
      rw [e, hn]
      simp only [sK, sN, if_neg h1]
theorem through_crc (k : Nat) (hk : 8 < k) (r c : Nat) (hr : r < 4294967296) (hc : c < 256) : check_through.f k (r : Int) (c : Int) = some ((sB (r ^^^ c) : Nat) : Int) := by
  unfold check_through.f
  have e : (c : Int) % 4294967296 = (c : Int) := by omega
  rw [e, xor_u32 _ _ hr (by omega)]
  exact through_l0 8 k 0 _ (Nat.xor_lt_two_pow (n := 32) hr (by omega)) (by omega) (by omega) hk

theorem more_l0 (s : ByteArray) (hs : s.size ≤ 140737488351232) (d : Nat) : ∀ (k : Nat) (i r : Nat), r < 4294967296 → i + d = s.size → d + 9 < k → check_More.l0 k s (r : Int) (s.size : Int) (i : Int) = some (Go.bits .xor .u32 4294967295 ((thN r ((bl s).drop i) : Nat) : Int)) := by
  induction d with
  | zero =>
    intro k i r hr hi hk
    obtain ⟨k, rfl⟩ : ∃ m, k = m + 1 := ⟨k - 1, by omega⟩
    simp only [check_More.l0]
    rw [if_neg (by omega), List.drop_of_length_le (by rw [bl_length]; omega), thN_nil]
  | succ d ih =>
    intro k i r hr hi hk
    obtain ⟨k, rfl⟩ : ∃ m, k = m + 1 := ⟨k - 1, by omega⟩
    have hlt : i < s.size := by omega
    have hli : i < (bl s).length := by rw [bl_length]; exact hlt
    have hc := bl_idx s i hli
    simp only [check_More.l0]
    rw [if_pos (by omega), if_pos (by omega), if_pos (by omega), bl_bt s i hlt, through_crc k (by omega) r _ hr hc]
    simp only [Option.bind_some]
    rw [wrap_up (by omega) (by omega), bl_drop s i hlt, thN_cons]
    exact ih k (i + 1) _ (sK_lt 8 _ (Nat.xor_lt_two_pow (n := 32) hr (by omega))) (by omega) (by omega)
theorem xorF (r : Nat) (hr : r < 4294967296) : Go.bits .xor .u32 4294967295 (r : Int) = ((F ^^^ r : Nat) : Int) := xor_u32 4294967295 r (by omega) hr
theorem xorF' (r : Nat) (hr : r < 4294967296) : Go.bits .xor .u32 (r : Int) 4294967295 = ((r ^^^ F : Nat) : Int) := xor_u32 r 4294967295 hr (by omega)
theorem F_lt : F < 4294967296 := by decide
theorem flip_lt (r : Nat) (hr : r < 4294967296) : F ^^^ r < 4294967296 := Nat.xor_lt_two_pow (n := 32) F_lt hr
/-- The sum goes on. -/
def moreN (r : Nat) (l : List Nat) : Nat := thN (F ^^^ r) l ^^^ F
theorem moreN_lt (r : Nat) (l : List Nat) (hr : r < 4294967296) (hl : ∀ c ∈ l, c < 256) : moreN r l < 4294967296 := Nat.xor_lt_two_pow (n := 32) (thN_lt l _ (flip_lt r hr) hl) F_lt
theorem sumN_lt (l : List Nat) (hl : ∀ c ∈ l, c < 256) : sumN l < 4294967296 := Nat.xor_lt_two_pow (n := 32) (thN_lt l _ F_lt hl) F_lt
theorem moreN_zero (l : List Nat) : moreN 0 l = sumN l := by unfold moreN sumN; rw [Nat.xor_zero]
theorem more_crc (s : ByteArray) (hs : s.size ≤ 140737488351232) (k : Nat) (hk : s.size + 9 < k) (r : Nat) (hr : r < 4294967296) : check_More.f k (r : Int) s = some ((moreN r (bl s) : Nat) : Int) := by
  unfold check_More.f
  rw [xorF r hr]
  have h := more_l0 s hs s.size k 0 (F ^^^ r) (flip_lt r hr) (by omega) hk
  rw [List.drop_zero, xorF _ (thN_lt _ _ (flip_lt r hr) (bl_lt s)), Nat.xor_comm F (thN (F ^^^ r) (bl s))] at h
  exact h
theorem sum_crc (s : ByteArray) (hs : s.size ≤ 140737488351232) (k : Nat) (hk : s.size + 9 < k) : check_Sum.f k s = some ((sumN (bl s) : Nat) : Int) := by
  unfold check_Sum.f
  have h := more_crc s hs k hk 0 (by omega)
  rw [moreN_zero] at h
  exact (congrArg (fun o => o.bind fun t => some t) h)

theorem bit_crc (r : Nat) (hr : r < 4294967296) : surmiseref02_bit.f (r : Int) = some ((sN r : Nat) : Int) := by
  have e1 : Int.tmod (r : Int) 2 = ((r % 2 : Nat) : Int) := by rw [Int.tmod_eq_emod_of_nonneg (by omega)]; omega
  have e2 : Int.tdiv (r : Int) 2 % 4294967296 = ((r / 2 : Nat) : Int) := by rw [Int.tdiv_eq_ediv_of_nonneg (by omega)]; omega
  unfold surmiseref02_bit.f sN
  rw [e1, e2]
  by_cases h : r % 2 = 1
  · rw [if_pos (by omega), if_pos h]
    have e3 : (2197175160 : Int) = ((2197175160 : Nat) : Int) := rfl
    rw [e3, xor_u32 _ _ (by omega) (by omega)]
  · rw [if_neg (by omega), if_neg h]
theorem refth_l1 (s : ByteArray) (i : Int) (d : Nat) : ∀ (k : Nat) (j : Int) (r : Nat), r < 4294967296 → 0 ≤ j → j + d = 8 → surmiseref02_Through.l1 (k + d + 1) (r : Int) s i j = surmiseref02_Through.l0 k ((sK d r : Nat) : Int) s (wrap64 (i + 1)) := by
  induction d with
  | zero =>
    intro k j r hr h0 hj
    simp only [surmiseref02_Through.l1, Nat.add_zero]
    rw [if_neg (by omega)]
    rfl
  | succ d ih =>
    intro k j r hr h0 hj
    have e : k + (d + 1) + 1 = (k + d + 1) + 1 := by omega
    rw [e]
    simp only [surmiseref02_Through.l1]
    rw [if_pos (by omega), bit_crc r hr]
    simp only [Option.bind_some]
    rw [wrap_up h0 (by omega)]
    exact ih k (j + 1) (sN r) (sN_lt r hr) (by omega) (by omega)
theorem refth_l0 (s : ByteArray) (hs : s.size ≤ 140737488351232) (d : Nat) : ∀ (k : Nat) (i r : Nat), r < 4294967296 → i + d = s.size → 10 * d < k → surmiseref02_Through.l0 k (r : Int) s (i : Int) = some ((thN r ((bl s).drop i) : Nat) : Int) := by
  induction d with
  | zero =>
    intro k i r hr hi hk
    obtain ⟨k, rfl⟩ : ∃ m, k = m + 1 := ⟨k - 1, by omega⟩
    simp only [surmiseref02_Through.l0]
    rw [if_neg (by omega), List.drop_of_length_le (by rw [bl_length]; omega), thN_nil]
  | succ d ih =>
    intro k i r hr hi hk
    obtain ⟨k, rfl⟩ : ∃ m, k = m + 8 + 1 + 1 := ⟨k - 10, by omega⟩
    have hlt : i < s.size := by omega
    have hli : i < (bl s).length := by rw [bl_length]; exact hlt
    have hc := bl_idx s i hli
    simp only [surmiseref02_Through.l0]
    have e : ((bl s)[i] : Int) % 4294967296 = (((bl s)[i] : Nat) : Int) := by omega
    have hx : r ^^^ (bl s)[i] < 4294967296 := Nat.xor_lt_two_pow (n := 32) hr (by omega)
    rw [if_pos (by omega), if_pos (by omega), bl_bt s i hlt, e, xor_u32 _ _ hr (by omega), refth_l1 s _ 8 k 0 _ hx (by omega) (by omega), wrap_up (by omega) (by omega), bl_drop s i hlt, thN_cons]
    exact ih k (i + 1) _ (sK_lt 8 _ hx) (by omega) (by omega)
theorem refth_crc (s : ByteArray) (hs : s.size ≤ 140737488351232) (k : Nat) (hk : 10 * s.size < k) (r : Nat) (hr : r < 4294967296) : surmiseref02_Through.f k (r : Int) s = some ((thN r (bl s) : Nat) : Int) := by
  have h := refth_l0 s hs s.size k 0 r hr (by omega) hk
  rw [List.drop_zero] at h
  exact h
theorem refsum_crc (s : ByteArray) (hs : s.size ≤ 140737488351232) (k : Nat) (hk : 10 * s.size < k) : surmiseref02_Sum.f k s = some ((sumN (bl s) : Nat) : Int) := by
  unfold surmiseref02_Sum.f
  have h := refth_crc s hs k hk F F_lt
  have e : ((F : Nat) : Int) = 4294967295 := rfl
  rw [e] at h
  rw [h]
  simp only [Option.bind_some]
  rw [xorF' _ (thN_lt _ _ F_lt (bl_lt s))]
  rfl
theorem refjoin_l0 (b : Nat) (hb : b < 4294967296) (n : Nat) (hn : n ≤ 3000) (d : Nat) : ∀ (k i a : Nat), a < 4294967296 → i + d = n → d + 20 < k → surmiseref02_Join.l0 k (a : Int) (b : Int) (n : Int) (i : Int) = some ((sK (8 * d) a ^^^ b : Nat) : Int) := by
  induction d with
  | zero =>
    intro k i a ha hi hk
    obtain ⟨k, rfl⟩ : ∃ m, k = m + 1 := ⟨k - 1, by omega⟩
    simp only [surmiseref02_Join.l0]
    rw [if_neg (by omega), xor_u32 _ _ ha hb]
    rfl
  | succ d ih =>
    intro k i a ha hi hk
    obtain ⟨k, rfl⟩ : ∃ m, k = m + 1 := ⟨k - 1, by omega⟩
    have hz : bl (⟨#[0]⟩ : ByteArray) = List.replicate 1 0 := rfl
    have ht := refth_crc (⟨#[0]⟩ : ByteArray) (by decide) k (by show 10 * 1 < k; omega) a ha
    rw [hz, thN_zeros] at ht
    simp only [surmiseref02_Join.l0]
    rw [if_pos (by omega), ht]
    simp only [Option.bind_some]
    rw [wrap_up (by omega) (by omega)]
    have e : 8 * (d + 1) = 8 * 1 + 8 * d := by omega
    rw [e, sK_add]
    exact ih k (i + 1) _ (sK_lt _ _ ha) (by omega) (by omega)
theorem refjoin_crc (a b n : Nat) (ha : a < 4294967296) (hb : b < 4294967296) (hn : n ≤ 3000) (k : Nat) (hk : n + 20 < k) : surmiseref02_Join.f k (a : Int) (b : Int) (n : Int) = some ((joinN a b n : Nat) : Int) :=
  refjoin_l0 b hb n hn n k 0 a ha (by omega) hk

end Go.Proofs.Ytnlimhjbdgbcoaa.Q
