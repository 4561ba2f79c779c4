/- The plain mathematics of the sum: a register through bytes is a linear map of numbers under exclusive or. -/
import Derived.Test.YtnlimhjbdgbcoaaQ0
namespace Go.Proofs.Ytnlimhjbdgbcoaa.Crc

/-- One bit through a register (of whatever size). -/
def sN (r : Nat) : Nat := if r % 2 = 1 then (r / 2) ^^^ 2197175160 else r / 2
def sK : Nat → Nat → Nat
  | 0, r => r
  | k + 1, r => sK k (sN r)
/-- Eight bits. -/
def sB (r : Nat) : Nat := sK 8 r
/-- Bytes through a register. -/
def thN (r : Nat) (l : List Nat) : Nat := l.foldl (fun r c => sB (r ^^^ c)) r
theorem thN_nil (r : Nat) : thN r [] = r := rfl
theorem thN_cons (r c : Nat) (l : List Nat) : thN r (c :: l) = thN (sB (r ^^^ c)) l := List.foldl_cons ..
/-- Bytes as a number, the lowest first. -/
def val : List Nat → Nat
  | [] => 0
  | c :: l => c + 256 * val l

theorem xor_div2 (a b : Nat) : (a ^^^ b) / 2 = a / 2 ^^^ b / 2 := by
  have := Nat.shiftRight_xor_distrib (a := a) (b := b) (i := 1)
  simpa [Nat.shiftRight_eq_div_pow] using this
theorem xor_mod2 (a b : Nat) : (a ^^^ b) % 2 = (a + b) % 2 := by
  have h : (a ^^^ b) % 2 ^ 1 = (a % 2 ^ 1) ^^^ (b % 2 ^ 1) := Nat.xor_mod_two_pow
  simp only [Nat.pow_one] at h
  rcases Nat.mod_two_eq_zero_or_one a with ha | ha <;> rcases Nat.mod_two_eq_zero_or_one b with hb | hb <;> rw [h, ha, hb] <;> simp <;> omega
theorem sN_xor (a b : Nat) : sN (a ^^^ b) = sN a ^^^ sN b := by
  unfold sN
  rw [xor_div2, xor_mod2]
  rcases Nat.mod_two_eq_zero_or_one a with ha | ha <;> rcases Nat.mod_two_eq_zero_or_one b with hb | hb
  · rw [if_neg (by omega), if_neg (by omega), if_neg (by omega)]
  · rw [if_pos (by omega), if_neg (by omega), if_pos hb, Nat.xor_assoc]
  · rw [if_pos (by omega), if_pos ha, if_neg (by omega), Nat.xor_assoc, Nat.xor_assoc, Nat.xor_comm (b / 2)]
  · rw [if_neg (by omega), if_pos ha, if_pos hb]
    rw [Nat.xor_assoc, ← Nat.xor_assoc 2197175160, Nat.xor_comm 2197175160 (b / 2), Nat.xor_assoc (b / 2), Nat.xor_self, Nat.xor_zero]
theorem sN_zero : sN 0 = 0 := rfl
theorem sK_xor (k : Nat) : ∀ a b, sK k (a ^^^ b) = sK k a ^^^ sK k b := by
  induction k with
  | zero => intro a b; rfl
  | succ k ih => intro a b; simp only [sK]; rw [sN_xor, ih]
theorem sK_zero (k : Nat) : sK k 0 = 0 := by
  induction k with
  | zero => rfl
  | succ k ih => simp only [sK]; rw [sN_zero, ih]
theorem sK_add (m : Nat) : ∀ n r, sK (m + n) r = sK n (sK m r) := by
  induction m with
  | zero => intro n r; simp [sK]
  | succ m ih => intro n r; rw [Nat.succ_add]; simp only [sK]; exact ih n (sN r)
theorem sN_lt (r : Nat) (h : r < 4294967296) : sN r < 4294967296 := by
  unfold sN
  split
  · exact Nat.xor_lt_two_pow (n := 32) (by omega) (by omega)
  · omega
theorem sK_lt (k : Nat) : ∀ r, r < 4294967296 → sK k r < 4294967296 := by
  induction k with
  | zero => intro r h; exact h
  | succ k ih => intro r h; exact ih _ (sN_lt r h)
theorem sN_ne (r : Nat) (h : r < 4294967296) (h0 : r ≠ 0) : sN r ≠ 0 := by
  unfold sN
  split
  · intro he
    have h2 : (r / 2 ^^^ 2197175160) ^^^ 2197175160 = 2197175160 := by rw [he, Nat.zero_xor]
    rw [Nat.xor_assoc, Nat.xor_self, Nat.xor_zero] at h2
    omega
  · omega
theorem sK_ne (k : Nat) : ∀ r, r < 4294967296 → r ≠ 0 → sK k r ≠ 0 := by
  induction k with
  | zero => intro r _ h; exact h
  | succ k ih => intro r h h0; exact ih _ (sN_lt r h) (sN_ne r h h0)
theorem sN_double (r : Nat) : sN (2 * r) = r := by
  unfold sN
  rw [if_neg (by omega)]
  omega
theorem sK_shift (k : Nat) : ∀ r, sK k (2 ^ k * r) = r := by
  induction k with
  | zero => intro r; simp [sK]
  | succ k ih =>
    intro r
    simp only [sK]
    rw [Nat.pow_succ, Nat.mul_comm (2 ^ k) 2, Nat.mul_assoc, sN_double, ih]
/-- A byte ahead of others. -/
theorem add_xor (c m : Nat) (hc : c < 256) : c + 256 * m = c ^^^ 256 * m := by
  have h1 : 256 * m + c = 256 * m ||| c := Nat.two_pow_add_eq_or_of_lt (i := 8) hc m
  have h2 : 256 * m ||| c = 256 * m ^^^ c := by
    apply Nat.eq_of_testBit_eq
    intro i
    rw [Nat.testBit_or, Nat.testBit_xor]
    by_cases hi : i < 8
    · have : (256 * m).testBit i = false := by
        have : 256 * m = 2 ^ 8 * m := rfl
        rw [this, Nat.testBit_two_pow_mul]
        simp; omega
      rw [this]; simp
    · have : c.testBit i = false := Nat.testBit_lt_two_pow (Nat.lt_of_lt_of_le hc (Nat.pow_le_pow_right (n := 2) (i := 8) (j := i) (by decide) (by omega)))
      rw [this]; simp
  rw [Nat.add_comm, h1, h2, Nat.xor_comm]
theorem sK_past (k a m : Nat) : sK k (a ^^^ 2 ^ k * m) = sK k a ^^^ m := by rw [sK_xor, sK_shift]
theorem sK_byte (a m : Nat) : sK 8 (a ^^^ 256 * m) = sB a ^^^ m := by
  have h := sK_past 8 a m
  rwa [show (2 : Nat) ^ 8 = 256 from rfl] at h
/-- THE CLOSED FORM: the register behind bytes. -/
theorem thN_val (l : List Nat) : ∀ r, (∀ c ∈ l, c < 256) → thN r l = sK (8 * l.length) (r ^^^ val l) := by
  induction l with
  | nil => intro r _; rw [thN_nil]; simp [val, sK]
  | cons c l ih =>
    intro r h
    have hc : c < 256 := h c List.mem_cons_self
    have hl : ∀ x ∈ l, x < 256 := fun x hx => h x (List.mem_cons_of_mem _ hx)
    have e1 : val (c :: l) = c ^^^ 256 * val l := by rw [val, add_xor c (val l) hc]
    have e2 : 8 * (c :: l).length = 8 + 8 * l.length := by rw [List.length_cons]; omega
    have e3 : thN r (c :: l) = thN (sB (r ^^^ c)) l := thN_cons r c l
    rw [e1, e2, e3, ih _ hl, sK_add, ← Nat.xor_assoc]
    rw [sK_byte (r ^^^ c) (val l)]
theorem thN_lt (l : List Nat) : ∀ r, r < 4294967296 → (∀ c ∈ l, c < 256) → thN r l < 4294967296 := by
  induction l with
  | nil => intro r h _; exact h
  | cons c l ih =>
    intro r h hl
    rw [thN_cons]
    refine ih _ (sK_lt 8 _ (Nat.xor_lt_two_pow (n := 32) h (Nat.lt_trans (hl c List.mem_cons_self) (by omega)))) (fun x hx => hl x (List.mem_cons_of_mem _ hx))
theorem thN_append (l : List Nat) : ∀ (m : List Nat) (r : Nat), thN r (l ++ m) = thN (thN r l) m := by
  induction l with
  | nil => intro m r; rfl
  | cons c l ih => intro m r; rw [List.cons_append, thN_cons, thN_cons]; exact ih m _
theorem thN_zeros (n : Nat) : ∀ r, thN r (List.replicate n 0) = sK (8 * n) r := by
  induction n with
  | zero => intro r; rfl
  | succ n ih =>
    intro r
    have e : 8 * (n + 1) = 8 + 8 * n := by omega
    rw [List.replicate_succ, thN_cons, Nat.xor_zero, ih, e, sK_add, sB]
/-- The start's share. -/
theorem thN_split (l : List Nat) (a b : Nat) (h : ∀ c ∈ l, c < 256) : thN (a ^^^ b) l = sK (8 * l.length) a ^^^ thN b l := by
  rw [thN_val l _ h, thN_val l _ h, Nat.xor_assoc, sK_xor]

/-- A sum, of a register. -/
def F : Nat := 4294967295
def sumN (l : List Nat) : Nat := thN F l ^^^ F
/-- What is joined: n bytes 0, and the other sum. -/
def joinN (a b n : Nat) : Nat := sK (8 * n) a ^^^ b
theorem xor_swap (a b c d : Nat) : (a ^^^ b) ^^^ (c ^^^ d) = (a ^^^ c) ^^^ (b ^^^ d) := by
  rw [Nat.xor_assoc, ← Nat.xor_assoc b c d, Nat.xor_comm b c, Nat.xor_assoc c b d, ← Nat.xor_assoc]
theorem join_sums (l m : List Nat) (hm : ∀ c ∈ m, c < 256) : joinN (sumN l) (sumN m) m.length = sumN (l ++ m) := by
  unfold joinN sumN
  rw [thN_append, sK_xor]
  have h1 : thN (thN F l) m = sK (8 * m.length) (thN F l ^^^ F) ^^^ thN F m := by
    have := thN_split m (thN F l ^^^ F) F hm
    rwa [Nat.xor_assoc, Nat.xor_self, Nat.xor_zero] at this
  rw [h1, sK_xor, Nat.xor_assoc, Nat.xor_assoc, Nat.xor_assoc]
theorem join_three (a b c m n : Nat) : joinN (joinN a b m) c n = joinN a (joinN b c n) (m + n) := by
  unfold joinN
  rw [sK_xor, Nat.mul_add, sK_add, Nat.xor_assoc]

end Go.Proofs.Ytnlimhjbdgbcoaa.Crc
