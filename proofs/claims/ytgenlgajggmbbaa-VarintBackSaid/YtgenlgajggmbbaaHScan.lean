/- Numbers read: what stands at any place, as the program and the document's reference read it. -/
import Derived.Test.YtgenlgajggmbbaaHPlain
import Derived.Test.YtgenlgajggmbbaaQf18
namespace Go.Proofs.Ytgenlgajggmbbaa.Q
open Go.RowKit Go.Proofs.YtgenlgajggmbbaaW.PrintWords Go.Proofs.YtgenlgajggmbbaaW.PrintLast Go.Proofs.YtgenlgajggmbbaaW.PrintMore
set_option linter.unusedVariables false
set_option linter.unusedSimpArgs false

/-- A number's digits from digit k on: what they are worth, how many, or the error. -/
def scan : List Nat → Nat → Nat × Nat × Int
  | [], _ => (0, 0, 5)
  | c :: l, k => if k = 9 ∧ 1 < c then (0, 0, 6) else if 128 ≤ c then (if (scan l (k + 1)).2.2 = 0 then (c - 128 + 128 * (scan l (k + 1)).1, (scan l (k + 1)).2.1 + 1, 0) else (0, 0, (scan l (k + 1)).2.2)) else if c = 0 ∧ 0 < k then (0, 0, 6) else (c, 1, 0)
def unz (u : Nat) : Int := if u % 2 = 1 then -((u / 2 : Nat) : Int) - 1 else ((u / 2 : Nat) : Int)
def outR (a : Int) (lo k : Nat) (r : Nat × Nat × Int) : Int × Int × Int := if r.2.2 = 0 then (unz (lo + 128 ^ k * r.1), a + (k : Int) + (r.2.1 : Int), 0) else (0, 0, r.2.2)
/-- What is read as a number. -/
def readN (s : ByteArray) (a : Int) : Int × Int × Int := if a < 0 ∨ (s.size : Int) < a then (0, 0, 3) else outR a 0 0 (scan ((bl s).drop a.toNat) 0)

theorem outR_more (a : Int) (lo k c : Nat) (l : List Nat) (hk : k ≠ 9) (hc : 128 ≤ c) : outR a lo k (scan (c :: l) k) = outR a (lo + (c - 128) * 128 ^ k) (k + 1) (scan l (k + 1)) := by
  rw [scan, if_neg (by omega), if_pos hc]
  generalize scan l (k + 1) = r
  unfold outR
  by_cases h : r.2.2 = 0
  · rw [if_pos h, if_pos h, if_pos rfl]
    have e1 : lo + 128 ^ k * (c - 128 + 128 * r.1) = lo + (c - 128) * 128 ^ k + 128 ^ (k + 1) * r.1 := by
      rw [Nat.mul_add, Nat.pow_succ, Nat.mul_comm (128 ^ k) (c - 128), ← Nat.mul_assoc, Nat.add_assoc]
    have e2 : a + (k : Int) + ((r.2.1 + 1 : Nat) : Int) = a + ((k + 1 : Nat) : Int) + (r.2.1 : Int) := by omega
    show (unz (lo + 128 ^ k * (c - 128 + 128 * r.1)), a + (k : Int) + ((r.2.1 + 1 : Nat) : Int), (0 : Int)) = _
    rw [e1, e2]
  · rw [if_neg h, if_neg h, if_neg h]
theorem pow128 (k : Nat) : 128 ^ k = 2 ^ (7 * k) := by rw [Nat.pow_mul]
theorem wraps_u64 (n : Int) (h0 : 0 ≤ n) (h1 : n < 2 ^ 64) : IntKind.u64.wrap n = n := by rw [wrap_u64]; omega
theorem or_u64 (a b : Nat) (ha : a < 18446744073709551616) (hb : b < 18446744073709551616) : Go.bits .or .u64 (a : Int) (b : Int) = ((a ||| b : Nat) : Int) :=
  (bits_nat .u64 64 (by decide) wraps_u64 a b ha hb).2
theorem and127 (c : Nat) (hc : c < 256) : Go.bits .and .u8 (c : Int) 127 = ((c % 128 : Nat) : Int) := by
  have h := bits_mask .u8 8 (by decide) wraps_u8 7 (by decide) (c : Int) (by omega) (by omega)
  have e : ((2 : Int) ^ 7 - 1) = 127 := by decide
  have e2 : ((2 : Int) ^ 7) = 128 := by decide
  rw [e, e2] at h
  rw [h]
  omega
/-- A digit more. -/
theorem digit_more (lo c k : Nat) (hlo : lo < 128 ^ k) (hc : c < 256) (hk : k ≤ 9) (h9 : k = 9 → c % 128 ≤ 1) :
    Go.bits .or .u64 (lo : Int) (shl .u64 (IntKind.u64.wrap (Go.bits .and .u8 (c : Int) 127)) (wrap64 (7 * (k : Int)))) = ((lo + (c % 128) * 128 ^ k : Nat) : Int) := by
  have hx : c % 128 < 128 := Nat.mod_lt _ (by decide)
  have hp : 128 ^ k ≤ 128 ^ 9 := Nat.pow_le_pow_right (by decide) hk
  have e9 : (128 : Nat) ^ 9 = 9223372036854775808 := by decide
  have hb : (c % 128) * 128 ^ k < 18446744073709551616 := by
    by_cases h : k = 9
    · subst h
      have := h9 rfl
      rw [e9]
      omega
    · have h8 : 128 ^ k ≤ 128 ^ 8 := Nat.pow_le_pow_right (by decide) (by omega)
      have e8 : (128 : Nat) ^ 8 = 72057594037927936 := by decide
      have : (c % 128) * 128 ^ k ≤ 127 * 128 ^ 8 := Nat.mul_le_mul (by omega) h8
      rw [e8] at this
      omega
  have hl : lo < 18446744073709551616 := by omega
  have e1 : wrap64 (7 * (k : Int)) = ((7 * k : Nat) : Int) := by rw [wrap_id (by omega) (by omega)]; omega
  have e2 : shl .u64 (IntKind.u64.wrap ((c % 128 : Nat) : Int)) ((7 * k : Nat) : Int) = ((c % 128 * 128 ^ k : Nat) : Int) := by
    have w1 : IntKind.u64.wrap ((c % 128 : Nat) : Int) = ((c % 128 : Nat) : Int) := by rw [wrap_u64]; omega
    have hb64 : IntKind.u64.bits = 64 := rfl
    have m1 : min ((7 * k : Nat) : Int).toNat IntKind.u64.bits = 7 * k := by rw [hb64, Int.toNat_natCast]; omega
    have c1 : ((c % 128 : Nat) : Int) * 2 ^ (7 * k) = ((c % 128 * 128 ^ k : Nat) : Int) := by
      rw [pow128]
      simp
    rw [shl, w1, m1, c1, wrap_u64]
    omega
  rw [and127 c hc, e1, e2, or_u64 lo _ hl hb]
  have h3 : lo ||| c % 128 * 128 ^ k = lo + c % 128 * 128 ^ k := by
    have := Nat.two_pow_add_eq_or_of_lt (i := 7 * k) (b := lo) (by rw [← pow128]; exact hlo) (c % 128)
    rw [← pow128, Nat.mul_comm] at this
    rw [Nat.or_comm, ← this, Nat.add_comm]
  rw [h3]
theorem not_i64 (u : Nat) (h : u < 9223372036854775808) : Go.bits .xor .i64 (-1) (u : Int) = -(u : Int) - 1 := by
  have e : BitVec.ofInt 64 (-1) = BitVec.allOnes 64 := by decide
  have e2 : (BitVec.ofInt 64 (-1) ^^^ BitVec.ofInt 64 (u : Int)).toNat = 18446744073709551615 - u := by
    rw [e, BitVec.allOnes_xor, BitVec.toNat_not, BitVec.ofInt_natCast, BitVec.toNat_ofNat]
    omega
  show IntKind.i64.wrap ((BitVec.ofInt 64 (-1) ^^^ BitVec.ofInt 64 (u : Int)).toNat : Int) = _
  rw [e2, IntKind.wrap_i64]
  omega
theorem and1_u64 (u : Nat) (hu : u < 18446744073709551616) : Go.bits .and .u64 (u : Int) 1 = ((u % 2 : Nat) : Int) := by
  have h := bits_mask .u64 64 (by decide) wraps_u64 1 (by decide) (u : Int) (by omega) (by omega)
  simpa using h

/-! ## the program's reader -/
theorem unz_odd (v : Nat) (h : v % 2 = 1) : unz v = -((v / 2 : Nat) : Int) - 1 := by rw [unz, if_pos h]
theorem unz_even (v : Nat) (h : ¬ v % 2 = 1) : unz v = ((v / 2 : Nat) : Int) := by rw [unz, if_neg h]
theorem half_cast (v : Nat) (h : v < 18446744073709551616) : wrap64 ((v : Int) / 2) = ((v / 2 : Nat) : Int) := by
  rw [wrap_id (by omega) (by omega)]
  omega
theorem vj3 (a : Int) (h0 : 0 ≤ a) (h1 : a ≤ 140737488351232) (v i : Nat) (hv : v < 18446744073709551616) (hi : i ≤ 9) (k : Nat) : varint_ReadNumber.j3 (k + 1) a (v : Int) (i : Int) false = some (unz v, a + (i : Int) + 1, 0) := by
  rw [varint_ReadNumber.j3, if_neg (by decide), and1_u64 v hv, half_cast v hv, wrap_id (i := a + (i : Int)) (by omega) (by omega), wrap_id (i := a + (i : Int) + 1) (by omega) (by omega)]
  by_cases h : v % 2 = 1
  · rw [if_pos (by omega), not_i64 _ (by omega), unz_odd v h]
  · rw [if_neg (by omega), unz_even v h]
theorem vj3_bad (a v i : Int) (k : Nat) : varint_ReadNumber.j3 (k + 1) a v i true = some (0, 0, 6) := by
  rw [varint_ReadNumber.j3, if_pos rfl]
theorem outR_bad (a : Int) (lo k : Nat) (e : Int) (he : e ≠ 0) (r : Nat × Nat × Int) (hr : r = (0, 0, e)) : outR a lo k r = (0, 0, e) := by
  rw [hr, outR, if_neg he]
theorem outR_last (a : Int) (lo k c : Nat) : outR a lo k (c, 1, 0) = (unz (lo + c * 128 ^ k), a + (k : Int) + 1, 0) := by
  rw [outR, if_pos rfl, Nat.mul_comm c]
  rfl
theorem low_more (lo c k : Nat) (hlo : lo < 128 ^ k) (hc : c < 128) : lo + c * 128 ^ k < 128 ^ (k + 1) := by
  have : c * 128 ^ k ≤ 127 * 128 ^ k := Nat.mul_le_mul_right _ (by omega)
  rw [Nat.pow_succ]
  omega
theorem low_top (lo c k : Nat) (hlo : lo < 128 ^ k) (hc : c < 128) (hk : k ≤ 9) (h9 : k = 9 → c ≤ 1) : lo + c * 128 ^ k < 18446744073709551616 := by
  by_cases h : k = 9
  · subst h
    have e9 : (128 : Nat) ^ 9 = 9223372036854775808 := by decide
    have := h9 rfl
    rw [e9] at hlo ⊢
    omega
  · have h1 := low_more lo c k hlo hc
    have h2 : 128 ^ (k + 1) ≤ 128 ^ 9 := Nat.pow_le_pow_right (by decide) (by omega)
    have e9 : (128 : Nat) ^ 9 = 9223372036854775808 := by decide
    omega
theorem vj2 (s : ByteArray) (p lo i c k : Nat) (hp : p ≤ 140737488351232) (hi : i ≤ 9) (hlo : lo < 128 ^ i) (hc : c < 256) (h9 : i = 9 → c ≤ 1) (l : List Nat)
    (go : 128 ≤ c → i ≠ 9 → varint_ReadNumber.l0 (k + 1) s (p : Int) ((lo + (c - 128) * 128 ^ i : Nat) : Int) ((i + 1 : Nat) : Int) = some (outR (p : Int) (lo + (c - 128) * 128 ^ i) (i + 1) (scan l (i + 1)))) :
    varint_ReadNumber.j2 (k + 2) s (p : Int) (lo : Int) (i : Int) (c : Int) false = some (outR (p : Int) lo i (scan (c :: l) i)) := by
  rw [varint_ReadNumber.j2, if_neg (by decide), digit_more lo c i hlo hc hi (fun h => by have := h9 h; omega), wrap_id (i := 7 * (i : Int)) (by omega) (by omega), if_pos (by omega)]
  by_cases h : 128 ≤ c
  · have e : c % 128 = c - 128 := by omega
    have hi9 : i ≠ 9 := fun h' => by have := h9 h'; omega
    rw [if_pos (by omega), wrap_up (by omega) (by omega), e, outR_more _ _ _ _ _ hi9 h]
    have := go h hi9
    rw [← this]
    rfl
  · have e : c % 128 = c := by omega
    rw [if_neg (by omega), e]
    have hs : scan (c :: l) i = if c = 0 ∧ 0 < i then (0, 0, 6) else (c, 1, 0) := by
      rw [scan, if_neg (fun h' => by have := h9 h'.1; omega), if_neg h]
    by_cases h0 : c = 0
    · rw [if_pos (by omega)]
      by_cases hi0 : 0 < i
      · have hd : decide ((i : Int) > 0) = true := decide_eq_true (by omega)
        rw [hd, vj3_bad, outR_bad _ _ _ 6 (by decide) _ (by rw [hs, if_pos ⟨h0, hi0⟩])]
      · have hd : decide ((i : Int) > 0) = false := decide_eq_false (by omega)
        rw [hd, vj3 _ (by omega) (by omega) _ _ (low_top lo c i hlo (by omega) hi h9) hi, hs, if_neg (fun h' => hi0 h'.2), outR_last]
    · rw [if_neg (by omega), vj3 _ (by omega) (by omega) _ _ (low_top lo c i hlo (by omega) hi h9) hi, hs, if_neg (fun h' => h0 h'.1), outR_last]
theorem vl0 (s : ByteArray) (hs : s.size ≤ 140737488351232) (p : Nat) (hp : p ≤ s.size) (e : Nat) : ∀ (i lo k : Nat), i + e = 9 → lo < 128 ^ i → 2 * e + 10 ≤ k → varint_ReadNumber.l0 k s (p : Int) (lo : Int) (i : Int) = some (outR (p : Int) lo i (scan ((bl s).drop (p + i)) i)) := by
  induction e with
  | zero =>
    intro i lo k hi hlo hk
    obtain ⟨k, rfl⟩ : ∃ k', k = k' + 3 := ⟨k - 3, by omega⟩
    have hi9 : i = 9 := by omega
    rw [varint_ReadNumber.l0, wrap_id (i := (p : Int) + (i : Int)) (by omega) (by omega)]
    by_cases h : p + i < s.size
    · rw [if_pos (by omega), if_pos (by omega), if_pos (by omega)]
      have hb : bt s ((p : Int) + (i : Int)) = _ := bl_bt s (p + i) h
      rw [hb, bl_drop s (p + i) h]
      have hc : (bl s)[p + i]'(by rw [bl_length]; exact h) < 256 := bl_idx s _ _
      generalize (bl s)[p + i]'(by rw [bl_length]; exact h) = c at hc ⊢
      by_cases h1 : 1 < c
      · have hd : decide ((c : Int) > 1) = true := decide_eq_true (by omega)
        rw [hd, varint_ReadNumber.j2, if_pos rfl, outR_bad _ _ _ 6 (by decide) _ (by rw [scan, if_pos ⟨hi9, h1⟩])]
      · have hd : decide ((c : Int) > 1) = false := decide_eq_false (by omega)
        rw [hd]
        exact vj2 s p lo i c k (by omega) (by omega) hlo hc (fun _ => by omega) _ (fun h' _ => absurd h' (by omega))
    · rw [if_neg (by omega), List.drop_eq_nil_of_le (by rw [bl_length]; omega), outR_bad _ _ _ 5 (by decide) _ (by rw [scan])]
  | succ e ih =>
    intro i lo k hi hlo hk
    obtain ⟨k, rfl⟩ : ∃ k', k = k' + 3 := ⟨k - 3, by omega⟩
    rw [varint_ReadNumber.l0, wrap_id (i := (p : Int) + (i : Int)) (by omega) (by omega)]
    by_cases h : p + i < s.size
    · rw [if_pos (by omega), if_pos (by omega), if_neg (by omega)]
      have hb : bt s ((p : Int) + (i : Int)) = _ := bl_bt s (p + i) h
      rw [hb, bl_drop s (p + i) h]
      have hc : (bl s)[p + i]'(by rw [bl_length]; exact h) < 256 := bl_idx s _ _
      generalize (bl s)[p + i]'(by rw [bl_length]; exact h) = c at hc ⊢
      refine vj2 s p lo i c k (by omega) (by omega) hlo hc (fun h' => by omega) _ (fun h1 h2 => ?_)
      rw [ih (i + 1) _ (k + 1) (by omega) (low_more lo (c - 128) i hlo (by omega)) (by omega)]
      rfl
    · rw [if_neg (by omega), List.drop_eq_nil_of_le (by rw [bl_length]; omega), outR_bad _ _ _ 5 (by decide) _ (by rw [scan])]
theorem read_some (s : ByteArray) (hs : s.size ≤ 140737488351232) (a : Int) (k : Nat) (hk : 40 ≤ k) : varint_ReadNumber.f k s a = some (readN s a) := by
  obtain ⟨k, rfl⟩ : ∃ k', k = k' + 1 := ⟨k - 1, by omega⟩
  unfold varint_ReadNumber.f readN
  by_cases h0 : a < 0
  · rw [if_pos h0, if_pos (Or.inl h0), varint_ReadNumber.j0, if_pos rfl]
  · rw [if_neg h0]
    by_cases h1 : (s.size : Int) < a
    · have hd : decide (a > (s.size : Int)) = true := decide_eq_true h1
      rw [hd, if_pos (Or.inr h1), varint_ReadNumber.j0, if_pos rfl]
    · have hd : decide (a > (s.size : Int)) = false := decide_eq_false h1
      have hn : ¬ (a < 0 ∨ (s.size : Int) < a) := by omega
      rw [hd, if_neg hn, varint_ReadNumber.j0, if_neg (by decide)]
      obtain ⟨p, rfl⟩ : ∃ p : Nat, a = (p : Int) := ⟨a.toNat, by omega⟩
      have := vl0 s hs p (by omega) 9 0 0 k (by omega) (by decide) (by omega)
      simpa using this

end Go.Proofs.Ytgenlgajggmbbaa.Q
