/- What is read at a place: numbers, texts and lists of both, by the program and by the reference. -/
import Derived.Test.YtgenlgajggmbbaaHScan
import Derived.Test.YtgenlgajggmbbaaQf22
import Derived.Test.YtgenlgajggmbbaaQf25
namespace Go.Proofs.Ytgenlgajggmbbaa.Q
open Go.RowKit Go.Proofs.YtgenlgajggmbbaaW.PrintWords Go.Proofs.YtgenlgajggmbbaaW.PrintLast Go.Proofs.YtgenlgajggmbbaaW.PrintMore
set_option linter.unusedVariables false
set_option linter.unusedSimpArgs false

theorem scan_ok (l : List Nat) : ∀ k, (scan l k).2.2 = 0 → 1 ≤ (scan l k).2.1 ∧ (scan l k).2.1 ≤ l.length := by
  induction l with
  | nil => intro k h; rw [scan] at h; exact absurd h (by decide)
  | cons c l ih =>
    intro k
    rw [scan]
    split
    · intro h; exact absurd h (by decide)
    · split
      · split
        · rename_i h3
          intro h
          have := ih (k + 1) h3
          simp only [List.length_cons]
          omega
        · rename_i h3
          intro h
          exact absurd h h3
      · split
        · intro h; exact absurd h (by decide)
        · intro h
          simp only [List.length_cons]
          omega
theorem scan_top (l : List Nat) : ∀ k, k ≤ 9 → (∀ c ∈ l, c < 256) → (scan l k).2.2 = 0 → 128 ^ k * (scan l k).1 < 18446744073709551616 ∧ (scan l k).2.1 + k ≤ 10 := by
  have e9 : (128 : Nat) ^ 9 = 9223372036854775808 := by decide
  induction l with
  | nil => intro k _ _ h; rw [scan] at h; exact absurd h (by decide)
  | cons c l ih =>
    intro k hk hl
    have hc := hl c (List.mem_cons_self ..)
    rw [scan]
    split
    · intro h; exact absurd h (by decide)
    · rename_i h1
      split
      · rename_i h2
        split
        · rename_i h3
          intro h
          have hk9 : k ≠ 9 := fun h' => h1 ⟨h', by omega⟩
          obtain ⟨i1, i2⟩ := ih (k + 1) (by omega) (fun x hx => hl x (List.mem_cons_of_mem _ hx)) h3
          generalize scan l (k + 1) = r at i1 i2 ⊢
          have e : 128 ^ k * (c - 128 + 128 * r.1) = 128 ^ k * (c - 128) + 128 ^ (k + 1) * r.1 := by
            rw [Nat.mul_add, Nat.pow_succ, Nat.mul_assoc]
          refine ⟨?_, by show r.2.1 + 1 + k ≤ 10; omega⟩
          show 128 ^ k * (c - 128 + 128 * r.1) < _
          rw [e]
          have hm : 128 ^ (k + 1) ∣ 18446744073709551616 - 128 ^ (k + 1) * r.1 := by
            have hd : 128 ^ (k + 1) ∣ 18446744073709551616 := by
              have : (18446744073709551616 : Nat) = 128 ^ 9 * 2 := by decide
              rw [this]
              exact Nat.dvd_trans (Nat.pow_dvd_pow _ (by omega)) (Nat.dvd_mul_right _ _)
            exact Nat.dvd_sub hd (Nat.dvd_mul_right _ _)
          have hle := Nat.le_of_dvd (by omega) hm
          have hx : 128 ^ k * (c - 128) < 128 ^ (k + 1) := by
            rw [Nat.pow_succ]
            exact Nat.mul_lt_mul_of_pos_left (by omega) (Nat.pow_pos (by decide))
          omega
        · rename_i h3
          intro h
          exact absurd h h3
      · rename_i h2
        split
        · intro h; exact absurd h (by decide)
        · intro _
          have := low_top 0 c k (Nat.pow_pos (by decide)) (by omega) hk (fun h' => by have := fun h'' => h1 ⟨h', h''⟩; omega)
          rw [Nat.zero_add, Nat.mul_comm] at this
          exact ⟨this, by show 1 + k ≤ 10; omega⟩
theorem readN_ok (s : ByteArray) (a : Int) (h : (readN s a).2.2 = 0) : 0 ≤ a ∧ a < (readN s a).2.1 ∧ (readN s a).2.1 ≤ (s.size : Int) ∧ (scan ((bl s).drop a.toNat) 0).2.2 = 0
    ∧ readN s a = (unz (scan ((bl s).drop a.toNat) 0).1, a + ((scan ((bl s).drop a.toNat) 0).2.1 : Int), 0) := by
  unfold readN at h ⊢
  by_cases h0 : a < 0 ∨ (s.size : Int) < a
  · rw [if_pos h0] at h; exact absurd h (by decide)
  · rw [if_neg h0] at h ⊢
    unfold outR at h ⊢
    by_cases h1 : (scan ((bl s).drop a.toNat) 0).2.2 = 0
    · have h2 := scan_ok _ _ h1
      rw [List.length_drop, bl_length] at h2
      rw [if_pos h1]
      refine ⟨by omega, ?_, ?_, h1, ?_⟩
      · show a < a + ((0 : Nat) : Int) + _
        omega
      · show a + ((0 : Nat) : Int) + _ ≤ _
        omega
      · have e1 : 0 + 128 ^ 0 * (scan ((bl s).drop a.toNat) 0).1 = (scan ((bl s).drop a.toNat) 0).1 := by simp
        have e2 : a + ((0 : Nat) : Int) = a := by omega
        rw [e1, e2]
    · rw [if_neg h1] at h
      exact absurd h h1
theorem unz_i64 (u : Nat) (h : u < 18446744073709551616) : -9223372036854775808 ≤ unz u ∧ unz u ≤ 9223372036854775807 := by
  unfold unz
  split <;> omega
theorem readN_i64 (s : ByteArray) (a : Int) (h : (readN s a).2.2 = 0) : -9223372036854775808 ≤ (readN s a).1 ∧ (readN s a).1 ≤ 9223372036854775807 := by
  obtain ⟨_, _, _, h1, e⟩ := readN_ok s a h
  rw [e]
  have := (scan_top _ 0 (by omega) (fun c hc => bl_lt s c (List.mem_of_mem_drop hc)) h1).1
  exact unz_i64 _ (by simpa using this)
def countN (s : ByteArray) (a m : Int) : Int × Int × Int := if (readN s a).2.2 = 0 then (if (readN s a).1 < 0 then (0, 0, 6) else (if (readN s a).1 > m then (0, 0, 4) else ((readN s a).1, (readN s a).2.1, 0))) else (0, 0, (readN s a).2.2)
theorem countN_ok (s : ByteArray) (a m : Int) (hs : s.size ≤ 140737488351232) (hm : 0 ≤ m) (h : (countN s a m).2.2 = 0) : 0 ≤ (countN s a m).1 ∧ (countN s a m).1 ≤ m ∧ 0 ≤ a ∧ a < (countN s a m).2.1 ∧ (countN s a m).2.1 ≤ (s.size : Int) := by
  unfold countN at h ⊢
  by_cases h0 : (readN s a).2.2 = 0
  · have hr := readN_ok s a h0
    rw [if_pos h0] at h ⊢
    by_cases h1 : (readN s a).1 < 0
    · rw [if_pos h1] at h; exact absurd h (by decide)
    · rw [if_neg h1] at h ⊢
      by_cases h2 : (readN s a).1 > m
      · rw [if_pos h2] at h; exact absurd h (by decide)
      · rw [if_neg h2]
        exact ⟨Int.not_lt.mp h1, Int.not_lt.mp h2, hr.1, hr.2.1, hr.2.2.1⟩
  · rw [if_neg h0] at h
    exact absurd h h0
theorem count_some (s : ByteArray) (hs : s.size ≤ 140737488351232) (a m : Int) (k : Nat) (hk : 40 ≤ k) : varint_count.f k s a m = some (countN s a m) := by
  unfold varint_count.f countN
  rw [bind_of (read_some s hs a k hk)]
  split
  · split
    · rfl
    · split <;> rfl
  · rfl
def readT (s : ByteArray) (a : Int) : ByteArray × Int × Int := if (countN s a 4096).2.2 = 0 then (if (s.size : Int) < (countN s a 4096).2.1 + (countN s a 4096).1 then (⟨#[]⟩, 0, 5) else (s.extract (countN s a 4096).2.1.toNat ((countN s a 4096).2.1 + (countN s a 4096).1).toNat, (countN s a 4096).2.1 + (countN s a 4096).1, 0)) else (⟨#[]⟩, 0, (countN s a 4096).2.2)
theorem readtext_some (s : ByteArray) (hs : s.size ≤ 140737488351232) (a : Int) (k : Nat) (hk : 50 ≤ k) : varint_ReadText.f k s a = some (readT s a) := by
  unfold varint_ReadText.f readT
  rw [bind_of (count_some s hs a 4096 k (by omega))]
  by_cases h : (countN s a 4096).2.2 = 0
  · obtain ⟨h1, h2, h3, h4, h5⟩ := countN_ok s a 4096 hs (by omega) h
    rw [if_pos h, if_pos h]
    generalize countN s a 4096 = c at h1 h2 h4 h5 ⊢
    rw [wrap_id (i := (s.size : Int) - c.2.1) (by omega) (by omega), wrap_id (i := c.2.1 + c.1) (by omega) (by omega)]
    by_cases h6 : (s.size : Int) < c.2.1 + c.1
    · rw [if_pos (by omega), if_pos h6]
    · rw [if_neg (by omega), if_neg h6, if_pos (by omega), if_pos (by omega), if_pos (by omega)]
  · rw [if_neg h, if_neg h]
def readL {α : Type} (R : Int → α × Int × Int) : Nat → Int → List α → List α × Int × Int
  | 0, a, acc => (acc, a, 0)
  | d + 1, a, acc => if (R a).2.2 = 0 then readL R d (R a).2.1 (acc ++ [(R a).1]) else ([], 0, (R a).2.2)
def listN {α : Type} (R : Int → α × Int × Int) (s : ByteArray) (a : Int) : List α × Int × Int := if (countN s a 256).2.2 = 0 then readL R (countN s a 256).1.toNat (countN s a 256).2.1 [] else ([], 0, (countN s a 256).2.2)
theorem readL_len {α : Type} (R : Int → α × Int × Int) (d : Nat) : ∀ (a : Int) (acc : List α), (readL R d a acc).1.length ≤ acc.length + d := by
  induction d with
  | zero => intro a acc; exact Nat.le_refl _
  | succ d ih =>
    intro a acc
    rw [readL]
    split
    · have := ih (R a).2.1 (acc ++ [(R a).1])
      rw [List.length_append, List.length_singleton] at this
      omega
    · exact Nat.zero_le _
theorem listN_len {α : Type} (R : Int → α × Int × Int) (s : ByteArray) (hs : s.size ≤ 140737488351232) (a : Int) : (listN R s a).1.length ≤ 256 := by
  unfold listN
  split
  · rename_i h
    obtain ⟨h1, h2, _⟩ := countN_ok s a 256 hs (by omega) h
    have := readL_len R (countN s a 256).1.toNat (countN s a 256).2.1 []
    simp only [List.length_nil] at this
    omega
  · exact Nat.zero_le _
theorem rnums (s : ByteArray) (hs : s.size ≤ 140737488351232) (n : Nat) (hn : n ≤ 256) (d : Nat) : ∀ (k i : Nat) (a : Int) (acc : List Int), i + d = n → acc.length = i → d + 60 ≤ k → varint_read_int__by_varint_ReadNumber.l0 k s a acc (n : Int) (i : Int) = some (readL (readN s) d a acc) := by
  induction d with
  | zero =>
    intro k i a acc hi hl hk
    obtain ⟨k, rfl⟩ : ∃ k', k = k' + 1 := ⟨k - 1, by omega⟩
    rw [varint_read_int__by_varint_ReadNumber.l0, if_neg (by omega), readL]
  | succ d ih =>
    intro k i a acc hi hl hk
    obtain ⟨k, rfl⟩ : ∃ k', k = k' + 1 := ⟨k - 1, by omega⟩
    rw [varint_read_int__by_varint_ReadNumber.l0, if_pos (by omega), bind_of (read_some s hs a k (by omega)), readL]
    by_cases h : (readN s a).2.2 = 0
    · rw [if_pos h, if_pos h, if_pos (by omega), wrap_up (by omega) (by omega)]
      exact ih k (i + 1) _ _ (by omega) (by simp [hl]) (by omega)
    · rw [if_neg h, if_neg h]
theorem rnums_some (s : ByteArray) (hs : s.size ≤ 140737488351232) (a : Int) (k : Nat) (hk : 400 ≤ k) : varint_read_int__by_varint_ReadNumber.f k s a = some (listN (readN s) s a) := by
  unfold varint_read_int__by_varint_ReadNumber.f listN
  rw [bind_of (count_some s hs a 256 k (by omega))]
  by_cases h : (countN s a 256).2.2 = 0
  · obtain ⟨h1, h2, h3, h4, h5⟩ := countN_ok s a 256 hs (by omega) h
    rw [if_pos h, if_pos h]
    have e : (countN s a 256).1 = (((countN s a 256).1.toNat : Nat) : Int) := by omega
    have := rnums s hs (countN s a 256).1.toNat (by omega) (countN s a 256).1.toNat k 0 (countN s a 256).2.1 [] (by omega) rfl (by omega)
    rw [← this]
    first | (rw [← e]; rfl) | rfl
  · rw [if_neg h, if_neg h]
theorem rtexts (s : ByteArray) (hs : s.size ≤ 140737488351232) (n : Nat) (hn : n ≤ 256) (d : Nat) : ∀ (k i : Nat) (a : Int) (acc : List ByteArray), i + d = n → acc.length = i → d + 60 ≤ k → varint_read_string__by_varint_ReadText.l0 k s a acc (n : Int) (i : Int) = some (readL (readT s) d a acc) := by
  induction d with
  | zero =>
    intro k i a acc hi hl hk
    obtain ⟨k, rfl⟩ : ∃ k', k = k' + 1 := ⟨k - 1, by omega⟩
    rw [varint_read_string__by_varint_ReadText.l0, if_neg (by omega), readL]
  | succ d ih =>
    intro k i a acc hi hl hk
    obtain ⟨k, rfl⟩ : ∃ k', k = k' + 1 := ⟨k - 1, by omega⟩
    rw [varint_read_string__by_varint_ReadText.l0, if_pos (by omega), bind_of (readtext_some s hs a k (by omega)), readL]
    by_cases h : (readT s a).2.2 = 0
    · rw [if_pos h, if_pos h, if_pos (by omega), wrap_up (by omega) (by omega)]
      exact ih k (i + 1) _ _ (by omega) (by simp [hl]) (by omega)
    · rw [if_neg h, if_neg h]
theorem rtexts_some (s : ByteArray) (hs : s.size ≤ 140737488351232) (a : Int) (k : Nat) (hk : 400 ≤ k) : varint_read_string__by_varint_ReadText.f k s a = some (listN (readT s) s a) := by
  unfold varint_read_string__by_varint_ReadText.f listN
  rw [bind_of (count_some s hs a 256 k (by omega))]
  by_cases h : (countN s a 256).2.2 = 0
  · obtain ⟨h1, h2, h3, h4, h5⟩ := countN_ok s a 256 hs (by omega) h
    rw [if_pos h, if_pos h]
    have e : (countN s a 256).1 = (((countN s a 256).1.toNat : Nat) : Int) := by omega
    have := rtexts s hs (countN s a 256).1.toNat (by omega) (countN s a 256).1.toNat k 0 (countN s a 256).2.1 [] (by omega) rfl (by omega)
    rw [← this]
    first | (rw [← e]; rfl) | rfl
  · rw [if_neg h, if_neg h]
theorem readnums_some (s : ByteArray) (hs : s.size ≤ 140737488351232) (a : Int) (k : Nat) (hk : 400 ≤ k) : varint_ReadNumbers.f k s a = some (listN (readN s) s a) := by
  unfold varint_ReadNumbers.f
  rw [bind_of (rnums_some s hs a k hk)]
theorem readtexts_some (s : ByteArray) (hs : s.size ≤ 140737488351232) (a : Int) (k : Nat) (hk : 400 ≤ k) : varint_ReadTexts.f k s a = some (listN (readT s) s a) := by
  unfold varint_ReadTexts.f
  rw [bind_of (rtexts_some s hs a k hk)]

end Go.Proofs.Ytgenlgajggmbbaa.Q
