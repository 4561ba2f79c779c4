/- Bursts, the plain mathematics: bytes in which some bits are turned, all within 32 side by side, are not opened. -/
import Derived.Test.YtnlimhjbdgbcoaaHLaws
namespace Go.Proofs.Ytnlimhjbdgbcoaa.Q
open Go.RowKit Go.Proofs.YtnlimhjbdgbcoaaW.PrintWords Go.Proofs.YtnlimhjbdgbcoaaW.PrintLast Go.Proofs.YtnlimhjbdgbcoaaW.PrintMore Go.Proofs.Ytnlimhjbdgbcoaa.Crc
set_option linter.unusedVariables false
set_option linter.unusedSimpArgs false

theorem mul_xor (i a b : Nat) : 2 ^ i * (a ^^^ b) = 2 ^ i * a ^^^ 2 ^ i * b := by
  have h := Nat.shiftLeft_xor_distrib (a := a) (b := b) (i := i)
  simp only [Nat.shiftLeft_eq] at h
  rw [Nat.mul_comm, h, Nat.mul_comm a, Nat.mul_comm b]
theorem add_pow (i a : Nat) (h : a < 2 ^ i) (b : Nat) : a + 2 ^ i * b = a ^^^ 2 ^ i * b := by
  have h1 : 2 ^ i * b + a = 2 ^ i * b ||| a := Nat.two_pow_add_eq_or_of_lt h b
  rw [Nat.add_comm, h1]
  apply Nat.eq_of_testBit_eq
  intro j
  rw [Nat.testBit_or, Nat.testBit_xor, Nat.testBit_two_pow_mul]
  by_cases hj : j < i
  · simp [show ¬ i ≤ j by omega]
  · have : a.testBit j = false := Nat.testBit_lt_two_pow (Nat.lt_of_lt_of_le h (Nat.pow_le_pow_right (n := 2) (i := i) (j := j) (by decide) (by omega)))
    simp [this]
theorem val_cons (c : Nat) (l : List Nat) (hc : c < 256) : val (c :: l) = c ^^^ 256 * val l := by rw [val, add_xor c (val l) hc]
theorem val_append (l : List Nat) : ∀ m : List Nat, (∀ c ∈ l, c < 256) → val (l ++ m) = val l ^^^ 2 ^ (8 * l.length) * val m := by
  induction l with
  | nil => intro m _; simp [val]
  | cons c l ih =>
    intro m h
    have hc := h c List.mem_cons_self
    have hl : ∀ x ∈ l, x < 256 := fun x hx => h x (List.mem_cons_of_mem _ hx)
    have e : 256 * (2 ^ (8 * l.length) * val m) = 2 ^ (8 * (c :: l).length) * val m := by
      rw [← Nat.mul_assoc, List.length_cons, Nat.mul_succ, Nat.pow_add, Nat.mul_comm 256]
    have e2 : (256 : Nat) = 2 ^ 8 := rfl
    rw [List.cons_append, val_cons c _ hc, val_cons c l hc, ih m hl, ← e, e2, mul_xor, Nat.xor_assoc]
theorem val_set (l : List Nat) : ∀ (j b : Nat) (hj : j < l.length), (∀ c ∈ l, c < 256) → b < 8 → val (l.set j (l[j] ^^^ 2 ^ b)) = val l ^^^ 2 ^ (8 * j + b) := by
  induction l with
  | nil => intro j b hj; simp at hj
  | cons c l ih =>
    intro j b hj h hb
    have hc := h c List.mem_cons_self
    have hl : ∀ x ∈ l, x < 256 := fun x hx => h x (List.mem_cons_of_mem _ hx)
    have hp : 2 ^ b < 256 := Nat.pow_lt_pow_right (a := 2) (m := b) (n := 8) (by decide) hb
    cases j with
    | zero =>
      have hx : c ^^^ 2 ^ b < 256 := Nat.xor_lt_two_pow (n := 8) hc hp
      simp only [List.set_cons_zero, List.getElem_cons_zero, Nat.mul_zero, Nat.zero_add]
      rw [val_cons _ _ hx, val_cons c l hc, Nat.xor_assoc, Nat.xor_comm (2 ^ b), ← Nat.xor_assoc]
    | succ j =>
      have e2 : (256 : Nat) = 2 ^ 8 := rfl
      simp only [List.set_cons_succ, List.getElem_cons_succ]
      rw [val_cons c _ hc, ih j b (by simpa using hj) hl hb, val_cons c l hc, e2, mul_xor, ← Nat.xor_assoc]
      congr 1
      rw [← Nat.pow_add]
      congr 1
      omega
/-- The bits so far, and one more. -/
theorem bits_more (at_ x i : Nat) : 2 ^ at_ * (x % 2 ^ (i + 1)) = if (x / 2 ^ i) % 2 = 1 then 2 ^ at_ * (x % 2 ^ i) ^^^ 2 ^ (at_ + i) else 2 ^ at_ * (x % 2 ^ i) := by
  have h1 : x % 2 ^ (i + 1) = x % 2 ^ i + 2 ^ i * (x / 2 ^ i % 2) := Nat.mod_pow_succ
  have hlt : x % 2 ^ i < 2 ^ i := Nat.mod_lt _ (Nat.two_pow_pos i)
  split
  · rename_i h
    rw [h1, h, add_pow i _ hlt 1, mul_xor, Nat.mul_one, Nat.pow_add]
  · rename_i h
    have h0 : x / 2 ^ i % 2 = 0 := by omega
    rw [h1, h0, Nat.mul_zero, Nat.add_zero]
theorem some_more (x i : Nat) : x % 2 ^ (i + 1) ≠ 0 ↔ (x / 2 ^ i) % 2 = 1 ∨ x % 2 ^ i ≠ 0 := by
  have h1 : x % 2 ^ (i + 1) = x % 2 ^ i + 2 ^ i * (x / 2 ^ i % 2) := Nat.mod_pow_succ
  have hp := Nat.two_pow_pos i
  rcases Nat.mod_two_eq_zero_or_one (x / 2 ^ i) with h | h
  · rw [h1, h]; simp
  · rw [h1, h]; simp

theorem sK_burst (k at_ e : Nat) (he : e < 4294967296) (h0 : e ≠ 0) : sK k (2 ^ at_ * e) ≠ 0 := by
  by_cases h : at_ ≤ k
  · obtain ⟨m, rfl⟩ : ∃ m, k = at_ + m := ⟨k - at_, by omega⟩
    rw [sK_add, sK_shift]
    exact sK_ne m e he h0
  · obtain ⟨m, rfl⟩ : ∃ m, at_ = k + m := ⟨at_ - k, by omega⟩
    rw [Nat.pow_add, Nat.mul_assoc, sK_shift]
    have := Nat.two_pow_pos m
    exact Nat.mul_ne_zero (by omega) h0
/-- A text and its own sum behind it: the register comes to F, n bytes on. -/
theorem sealed_reg (l m : List Nat) (hl : ∀ c ∈ l, c < 256) (hm : val m = sumN l) : sK (8 * l.length) (F ^^^ val (l ++ m)) = F := by
  have h1 : sumN l = sK (8 * l.length) (F ^^^ val l) ^^^ F := by rw [sumN, thN_val l F hl]
  rw [val_append l m hl, ← Nat.xor_assoc, sK_past, hm, h1, ← Nat.xor_assoc, Nat.xor_self, Nat.zero_xor]
theorem two_regs (k x y : Nat) (hx : sK k (F ^^^ x) = F) (hy : sK k (F ^^^ y) = F) : sK k (x ^^^ y) = 0 := by
  have h : x ^^^ y = (F ^^^ x) ^^^ (F ^^^ y) := by
    rw [xor_swap, Nat.xor_self, Nat.zero_xor]
  rw [h, sK_xor, hx, hy, Nat.xor_self]
/-- The law of bursts. -/
theorem burst_none (t s : ByteArray) (at_ e : Nat) (he : e < 4294967296) (h0 : e ≠ 0) (hs : s.size = t.size + 4) (hv : val (bl s) = val (bl t ++ four (sumN (bl t))) ^^^ 2 ^ at_ * e) : openN s = (⟨#[]⟩, 7) := by
  have hsz : s.size - 4 = t.size := by omega
  unfold openN
  rw [if_neg (by omega), if_neg]
  rw [hsz]
  intro hq
  have hl : (bl (s.extract 0 t.size)).length = t.size := by rw [bl_length, ByteArray.size_extract]; omega
  have hcut : bl s = bl (s.extract 0 t.size) ++ bl (s.extract t.size s.size) := by
    have := cut_four s (by omega)
    rw [hsz] at this
    exact (congrArg bl this).trans (bl_append _ _)
  have r1 := sealed_reg (bl t) (four (sumN (bl t))) (bl_lt t) (val_four _ (sumN_lt _ (bl_lt t)))
  have r2 := sealed_reg (bl (s.extract 0 t.size)) (bl (s.extract t.size s.size)) (bl_lt _) (by rw [← hq, bl_fourB]; exact val_four _ (sumN_lt _ (bl_lt _)))
  rw [← hcut, hl, hv] at r2
  rw [bl_length] at r1
  have r3 := two_regs _ _ _ r1 r2
  rw [← Nat.xor_assoc, Nat.xor_self, Nat.zero_xor] at r3
  exact sK_burst _ _ _ he h0 r3

end Go.Proofs.Ytnlimhjbdgbcoaa.Q
